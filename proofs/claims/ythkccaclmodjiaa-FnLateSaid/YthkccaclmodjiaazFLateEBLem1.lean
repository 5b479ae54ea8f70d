import Derived.Test.YthkccaclmodjiaazFLateEShort
import Derived.Test.YthkccaclmodjiaazFLateI0
import Derived.Test.YthkccaclmodjiaazFLateESortI
import Derived.Test.YthkccaclmodjiaazFLateI44
import Derived.Test.YthkccaclmodjiaazFLateELayS
import Derived.Test.YthkccaclmodjiaazFLateI4
import Derived.Test.YthkccaclmodjiaazFLateEPieceCode
import Derived.Test.YthkccaclmodjiaazFLateI6
import Derived.Test.YthkccaclmodjiaazFLateI7
import Derived.Test.YthkccaclmodjiaazFLateI1
import Derived.Test.YthkccaclmodjiaazFLateI2
import Derived.Test.YthkccaclmodjiaazFLateI3
section
namespace Go.Proofs.Ythkccaclmodjiaa.I
open Go.RowKit Go.Proofs.YthkccaclmodjiaaW.PrintWords Go.Proofs.YthkccaclmodjiaaW.PrintLast Go.Proofs.YthkccaclmodjiaaW.PrintMore
attribute [local go_sem] max2_int min2_int max_two min_two max_three min_three max_four min_four   -- for this text's walks alone
set_option linter.unusedVariables false
set_option linter.unusedSimpArgs false
def impl_LateIn.f (k : Nat) (a0_0 : Int) (a0_1 : Int) (l1 : List (S57)) (l2 : List Int) : Option (List Int × Int) := (impl_orderCode.f k a0_0 a0_1 l1 l2).bind fun t273 => (if t273 = 0 then ((impl_Iron_late.f k a0_0 a0_1 l1 l2).bind fun bt274 => (some (bt274.1, 0))) else (some (([] : List Int), t273)))
theorem impl_LateIn.mono : ∀ a0 a1 a2 a3 k, LeO (impl_LateIn.f k a0 a1 a2 a3) (impl_LateIn.f (k + 1) a0 a1 a2 a3) := by
 intro a0 a1 a2 a3 k
 unfold impl_LateIn.f
 repeat' first
  | (with_reducible exact impl_Iron_late.mono _ _ _ _ _)
  | (with_reducible exact impl_orderCode.mono _ _ _ _ _)
  | (with_reducible exact LeO.refl _)
  | (with_reducible exact LeO.none _)
  | (with_reducible refine LeO.ite ?_ ?_)
  | (with_reducible refine LeO.bind ?_ (fun _ => ?_))
  | exact impl_Iron_late.mono _ _ _ _ _
  | exact impl_orderCode.mono _ _ _ _ _
  | exact LeO.none _
  | refine LeO.ite ?_ ?_
  | refine LeO.bind ?_ (fun _ => ?_)
set_option maxHeartbeats 8000000 in
set_option maxRecDepth 100000 in
theorem impl_LateIn.calls (k : Nat) (a0_0 : Int) (a0_1 : Int) (A1 : Option Addr) (c1 : Nat) (l1 : List (S57)) (A2 : Option Addr) (c2 : Nat) (l2 : List Int) (r1 : List Int) (r2 : Int) (w : World) (hr1 : Kd.C k57 w A1 l1.length l1) (hc1 : l1.length ≤ c1) (hr2 : Kd.C (Kd.int .i64) w A2 l2.length l2) (hc2 : l2.length ≤ c2) (h : impl_LateIn.f k a0_0 a0_1 l1 l2 = some (r1, r2)) :
 Calls Try.prog 53 #[.agg #[.int .i8 a0_0, .int .i8 a0_1], .slice A1 l1.length c1, .slice A2 l2.length c2] w fun e w' => ∃ v0_ : Value, e = .returned (.tuple #[v0_, .int .i64 r2]) ∧ Kd.R (Kd.int .i64) 2 w' w.heap.size (fun _ => True) v0_ r1 ∧ Below w.heap.size w w' := by
 have hu27 := Try.underlying27
 have HR1 := Aside0.mk hr1
 have HC1 := Aside0.mk hc1
 clear hr1 hc1
 have HR2 := Aside0.mk hr2
 have HC2 := Aside0.mk hc2
 clear hr2 hc2
 have HB := Aside0.mk (Below.refl w.heap.size w)
 have H : ((impl_orderCode.f k a0_0 a0_1 l1 l2).bind fun t273 => (if t273 = 0 then ((impl_Iron_late.f k a0_0 a0_1 l1 l2).bind fun bt274 => (some (bt274.1, 0))) else (some (([] : List Int), t273)))) = some (r1, r2) := h
 clear h
 replace H := Option.bind_eq_some_iff.mp H
 obtain ⟨t273, A40, H⟩ := H
 replace H : (if t273 = 0 then ((impl_Iron_late.f k a0_0 a0_1 l1 l2).bind fun bt274 => (some (bt274.1, 0))) else (some (([] : List Int), t273))) = some (r1, r2) := H
 have A4 := Aside0.mk A40
 clear A40
 by_cases c5 : t273 = 0
 · rw [if_pos c5] at H
   have c5b0 : (t273 == 0) = true := beq_iff_eq.mpr c5
   have c5b1 : (t273 != 0) = false := bne_eq_false_iff_eq.mpr c5
   clear c5
   replace H := Option.bind_eq_some_iff.mp H
   obtain ⟨⟨t274, t277⟩, A60, H⟩ := H
   replace H : (some (t274, 0)) = some (r1, r2) := H
   have A6 := Aside0.mk A60
   clear A60
   simp only [Option.some.injEq, Prod.mk.injEq] at H
   obtain ⟨rfl, rfl⟩ := H
   go_enter Try.func53, Try.ntmps53
   go_wp2_with (first | ((with_reducible refine gate_dst (N := 3) rfl ?_); refine box_event ?hg (N := 3) ?hd (cs := #[.int .i8 a0_0, .int .i8 a0_1]) (t := 27) ?hr ?_; (case hd => rfl); (case hg => rfl); (case hr => first | (go_simp; done) | (go_simp; rfl)); intro gb272 hg w7 hbox hb; have n0_ := Aside0.mk (below_step (blB HB) hb); have n1_ := Aside0.mk (hbox); have n2_ := Aside0.mk ((by rw [hg]; exact (below_size (blB HB)) : w.heap.size ≤ gb272)); have n3_ := Aside0.mk ((by rw [hg]; exact (below_size (blB HB)) : w.heap.size ≤ gb272)); clear HB; have HB := n0_; have BK272 := n1_; have GW272 := n2_; have GE272 := n3_; clear n0_ n1_ n2_ n3_; clear hb hbox hg; have hcz8_0 : w7.cell? ⟨gb272, 0, none⟩ = some (.int .i8 a0_0) := (blk_cell BK272.out 0).trans rfl; have hcz8_1 : w7.cell? ⟨gb272, 1, none⟩ = some (.int .i8 a0_1) := (blk_cell BK272.out 1).trans rfl; have hfz8_0 := blk_frozen BK272.out 0; have hfz8_1 := blk_frozen BK272.out 1) | ((with_reducible refine gate_callee (f := 94) rfl ?_); refine goesL_ (some 14) rfl rfl Try.func94 (by kernel_rfl) rfl #[.agg #[.int .i8 a0_0, .int .i8 a0_1], .slice A1 l1.length c1, .slice A2 l2.length c2] rfl (by (try simp only [List.map_toArray, List.map_cons, List.map_nil]); first | done | rfl | (simp only [List.length_drop, List.length_take]; rfl)) ?_; (with_reducible refine (impl_orderCode.calls k a0_0 a0_1 _ _ l1 _ _ l2 t273 _ ?side1 ?side2 ?side3 ?side4 A4.out).mono ?_); (case side1 => exact cvC ((Kd.C_below HR1.out HB.out))); (case side2 => exact HC1.out); (case side3 => exact cvC ((Kd.C_below HR2.out HB.out))); (case side4 => exact HC2.out); rintro e w9 ⟨rfl, hb⟩; refine ⟨_, rfl, ?_⟩; have n0_ := Aside0.mk (blk_below (g := gb272) (o := .cells #[.int .i8 a0_0, .int .i8 a0_1] 27 (0, 0)) (by (with_reducible repeat (first | refine blk_drewN ?_ _ | refine blk_drew ?_ | refine blk_alloc ?_ _)); exact BK272.out) hb); have n1_ := Aside0.mk (below_step (by repeat (first | (with_reducible first | exact HB.out | apply below_alloc | apply pw_below_drewN | apply below_drew1 | refine below_set ?_ GE272.out) | exact HB.out)) hb); clear BK272; clear HB; have BK272 := n0_; have HB := n1_; clear n0_ n1_; (try clear hb); (try clear hb2); (try clear hk); (try clear hi); have hcz10_0 : w9.cell? ⟨gb272, 0, none⟩ = some (.int .i8 a0_0) := (blk_cell BK272.out 0).trans rfl; have hcz10_1 : w9.cell? ⟨gb272, 1, none⟩ = some (.int .i8 a0_1) := (blk_cell BK272.out 1).trans rfl; have hfz10_0 := blk_frozen BK272.out 0; have hfz10_1 := blk_frozen BK272.out 1) | ((with_reducible refine gate_callee (f := 95) rfl ?_); refine goesL_ (some 22) rfl rfl Try.func95 (by kernel_rfl) rfl #[.agg #[.int .i8 a0_0, .int .i8 a0_1], .slice A1 l1.length c1, .slice A2 l2.length c2] rfl (by (try simp only [List.map_toArray, List.map_cons, List.map_nil]); first | done | rfl | (simp only [List.length_drop, List.length_take]; rfl)) ?_; (with_reducible refine (impl_Iron_late.calls k a0_0 a0_1 _ _ l1 _ _ l2 t274 t277 _ ?side1 ?side2 ?side3 ?side4 A6.out).mono ?_); (case side1 => exact cvC ((Kd.C_below HR1.out HB.out))); (case side2 => exact HC1.out); (case side3 => exact cvC ((Kd.C_below HR2.out HB.out))); (case side4 => exact HC2.out); rintro e w11 ⟨v275, rfl, ho0, hb⟩; refine ⟨_, rfl, ?_⟩; have n0_ := Aside0.mk (Kd.R_lower ho0 (below_size (by repeat (first | (with_reducible first | exact HB.out | apply below_alloc | apply pw_below_drewN | apply below_drew1 | refine below_set ?_ GE272.out) | exact HB.out)))); have n1_ := Aside0.mk (blk_below (g := gb272) (o := .cells #[.int .i8 a0_0, .int .i8 a0_1] 27 (0, 0)) (by (with_reducible repeat (first | refine blk_drewN ?_ _ | refine blk_drew ?_ | refine blk_alloc ?_ _)); exact BK272.out) hb); have n2_ := Aside0.mk (below_step (by repeat (first | (with_reducible first | exact HB.out | apply below_alloc | apply pw_below_drewN | apply below_drew1 | refine below_set ?_ GE272.out) | exact HB.out)) hb); clear BK272; clear HB; have HO276 := n0_; have BK272 := n1_; have HB := n2_; clear n0_ n1_ n2_; (try clear hb); (try clear hb2); (try clear hk); (try clear hi); (try clear ho0)))
   go_ret2
   exact ⟨_, by first | rfl | (simp [errW_none, errW_some] <;> rfl) | (simp [*, errW_none, errW_some] <;> rfl), mvR HO276, by repeat (first | (with_reducible first | exact HB.out | apply below_alloc | apply pw_below_drewN | apply below_drew1 | refine below_set ?_ GE272.out) | exact HB.out)⟩
 · rw [if_neg c5] at H
   have c5b0 : (t273 == 0) = false := beq_eq_false_iff_ne.mpr c5
   have c5b1 : (t273 != 0) = true := bne_iff_ne.mpr c5
   simp only [Option.some.injEq, Prod.mk.injEq] at H
   obtain ⟨rfl, rfl⟩ := H
   go_enter Try.func53, Try.ntmps53
   go_wp2_with (first | ((with_reducible refine gate_dst (N := 3) rfl ?_); refine box_event ?hg (N := 3) ?hd (cs := #[.int .i8 a0_0, .int .i8 a0_1]) (t := 27) ?hr ?_; (case hd => rfl); (case hg => rfl); (case hr => first | (go_simp; done) | (go_simp; rfl)); intro gb272 hg w12 hbox hb; have n0_ := Aside0.mk (below_step (blB HB) hb); have n1_ := Aside0.mk (hbox); have n2_ := Aside0.mk ((by rw [hg]; exact (below_size (blB HB)) : w.heap.size ≤ gb272)); have n3_ := Aside0.mk ((by rw [hg]; exact (below_size (blB HB)) : w.heap.size ≤ gb272)); clear HB; have HB := n0_; have BK272 := n1_; have GW272 := n2_; have GE272 := n3_; clear n0_ n1_ n2_ n3_; clear hb hbox hg; have hcz13_0 : w12.cell? ⟨gb272, 0, none⟩ = some (.int .i8 a0_0) := (blk_cell BK272.out 0).trans rfl; have hcz13_1 : w12.cell? ⟨gb272, 1, none⟩ = some (.int .i8 a0_1) := (blk_cell BK272.out 1).trans rfl; have hfz13_0 := blk_frozen BK272.out 0; have hfz13_1 := blk_frozen BK272.out 1) | ((with_reducible refine gate_callee (f := 94) rfl ?_); refine goesL_ (some 14) rfl rfl Try.func94 (by kernel_rfl) rfl #[.agg #[.int .i8 a0_0, .int .i8 a0_1], .slice A1 l1.length c1, .slice A2 l2.length c2] rfl (by (try simp only [List.map_toArray, List.map_cons, List.map_nil]); first | done | rfl | (simp only [List.length_drop, List.length_take]; rfl)) ?_; (with_reducible refine (impl_orderCode.calls k a0_0 a0_1 _ _ l1 _ _ l2 t273 _ ?side1 ?side2 ?side3 ?side4 A4.out).mono ?_); (case side1 => exact cvC ((Kd.C_below HR1.out HB.out))); (case side2 => exact HC1.out); (case side3 => exact cvC ((Kd.C_below HR2.out HB.out))); (case side4 => exact HC2.out); rintro e w14 ⟨rfl, hb⟩; refine ⟨_, rfl, ?_⟩; have n0_ := Aside0.mk (blk_below (g := gb272) (o := .cells #[.int .i8 a0_0, .int .i8 a0_1] 27 (0, 0)) (by (with_reducible repeat (first | refine blk_drewN ?_ _ | refine blk_drew ?_ | refine blk_alloc ?_ _)); exact BK272.out) hb); have n1_ := Aside0.mk (below_step (by repeat (first | (with_reducible first | exact HB.out | apply below_alloc | apply pw_below_drewN | apply below_drew1 | refine below_set ?_ GE272.out) | exact HB.out)) hb); clear BK272; clear HB; have BK272 := n0_; have HB := n1_; clear n0_ n1_; (try clear hb); (try clear hb2); (try clear hk); (try clear hi)))
   go_ret2
   exact ⟨_, by first | rfl | (simp [errW_none, errW_some] <;> rfl) | (simp [*, errW_none, errW_some] <;> rfl), by first | exact Kd.R_nil _ _ _ _ _ | exact Kd.N_nil _ _ _ _ _ | exact Kd.V_nil _ _ _ _ _ | exact Kd.Q_nil _ _ _ _ _ | exact Kd.S_nil _ _ _ _ _, by repeat (first | (with_reducible first | exact HB.out | apply below_alloc | apply pw_below_drewN | apply below_drew1 | refine below_set ?_ GE272.out) | exact HB.out)⟩
end Go.Proofs.Ythkccaclmodjiaa.I
end
section
namespace Go.Proofs.Ythkccaclmodjiaa.I
open Go.RowKit Go.Proofs.YthkccaclmodjiaaW.PrintWords Go.Proofs.YthkccaclmodjiaaW.PrintLast Go.Proofs.YthkccaclmodjiaaW.PrintMore
attribute [local go_sem] max2_int min2_int max_two min_two max_three min_three max_four min_four
set_option linter.unusedVariables false
set_option linter.unusedSimpArgs false
theorem rd57_lt (l : List S57) (i : Nat) (h : i < l.length) : rd_T57 l (i : Int) = l[i] := by
 show l.getD i z57 = _
 rw [List.getD_eq_getElem?_getD, List.getElem?_eq_getElem h]
 rfl
theorem eqPiece_f (x : S57) : laws_eqPiece.f x.f0 x.f1 x.f2 x.f0 x.f1 x.f2 = some true := by
 unfold laws_eqPiece.f
 simp
theorem laws_eqPieceS.same (l : List S57) (hm : l.length ≤ 4611686018427387904) : Ev (fun k => laws_eqPieceS.f k l l) true := by
 refine Ev.congr (f := fun k => laws_eqPieceS.l0 k l l 0) (fun k => by unfold laws_eqPieceS.f; rw [if_pos rfl]) ?_
 refine Ev.loop (L := fun k s => laws_eqPieceS.l0 k l l s) (fun s d => ∃ i : Nat, i + d = l.length ∧ s = (i : Int)) ?_ l.length 0 ⟨0, by omega, rfl⟩
 rintro s d ⟨i, hd, rfl⟩
 by_cases c : i < l.length
 · refine .inr ⟨((i + 1 : Nat) : Int), d - 1, by omega, ⟨i + 1, by omega, rfl⟩, 0, fun k _ => ?_⟩
   rw [laws_eqPieceS.l0]
   rw [if_pos (by omega), if_pos (by omega), if_pos (by omega), eqPiece_f, Option.bind_some, if_pos rfl, w64 _ (by omega) (by omega)]
   rfl
 · refine .inl ⟨0, fun k _ => ?_⟩
   rw [laws_eqPieceS.l0]
   rw [if_neg (by omega)]
end Go.Proofs.Ythkccaclmodjiaa.I
end
section
namespace Go.Proofs.Ythkccaclmodjiaa.I
open Go.RowKit Go.Proofs.YthkccaclmodjiaaW.PrintWords Go.Proofs.YthkccaclmodjiaaW.PrintLast Go.Proofs.YthkccaclmodjiaaW.PrintMore
attribute [local go_sem] max2_int min2_int max_two min_two max_three min_three max_four min_four
set_option linter.unusedVariables false
set_option linter.unusedSimpArgs false
def firstNZ : List Int → Int
 | [] => 0
 | x :: r => if x = 0 then firstNZ r else x
theorem firstOf_ev (l : List Int) (hm : l.length ≤ 4611686018427387904) : Ev (fun k => impl_firstOf.f k l) (firstNZ l) := by
 refine Ev.loop (L := fun k s => impl_firstOf.l0 k l (l.length : Int) s) (fun s d => ∃ i : Nat, i + d = l.length ∧ s = (i : Int) ∧ firstNZ (l.drop i) = firstNZ l) ?_ l.length 0 ⟨0, by omega, rfl, rfl⟩
 rintro s d ⟨i, hd, rfl, hf⟩
 by_cases c : i < l.length
 · have e : l.drop i = l[i] :: l.drop (i + 1) := List.drop_eq_getElem_cons c
   by_cases q : l[i] = 0
   · refine .inr ⟨((i + 1 : Nat) : Int), d - 1, by omega, ⟨i + 1, by omega, rfl, ?_⟩, 0, fun k _ => ?_⟩
     · rw [← hf, e, firstNZ, if_pos q]
     · rw [impl_firstOf.l0]
       rw [if_pos (by omega), if_pos (by omega), if_pos (by omega), rd_of_lt l i c, if_pos q, w64 _ (by omega) (by omega)]
       rfl
   · refine .inl ⟨0, fun k _ => ?_⟩
     rw [impl_firstOf.l0]
     rw [if_pos (by omega), if_pos (by omega), if_pos (by omega), rd_of_lt l i c, if_neg q, ← hf, e, firstNZ, if_neg q]
 · obtain rfl : i = l.length := by omega
   refine .inl ⟨0, fun k _ => ?_⟩
   rw [impl_firstOf.l0]
   rw [if_neg (by omega), ← hf, List.drop_length]
   rfl
theorem unless_b (b : Bool) (c : Int) : impl_unless.f b c = some (if b = true then 0 else c) := by
 unfold impl_unless.f
 cases b <;> rfl
def okIron (x y : Int) : Bool := (decide (0 ≤ wrap64 x) && decide (wrap64 x ≤ 60)) && (decide (0 ≤ wrap64 y) && decide (wrap64 y ≤ 60))
theorem same_in (a b c : Int) : spec_l00In.f a b c = some (decide (b ≤ a) && decide (a ≤ c)) := by
 unfold spec_l00In.f
 by_cases h : b ≤ a <;> simp [h]
theorem specIron_f (x y : Int) : spec_l07Iron.f x y = some (okIron x y) := by
 unfold spec_l07Iron.f okIron
 rw [same_in, same_in]
 generalize (decide (0 ≤ wrap64 x) && decide (wrap64 x ≤ 60)) = a
 generalize (decide (0 ≤ wrap64 y) && decide (wrap64 y ≤ 60)) = b
 cases a <;> cases b <;> rfl
theorem implIron_f (x y : Int) : impl_ValidIron.f x y = some (okIron x y) := by
 unfold impl_ValidIron.f okIron
 rw [within_f, within_f]
 generalize (decide (0 ≤ wrap64 x) && decide (wrap64 x ≤ 60)) = a
 generalize (decide (0 ≤ wrap64 y) && decide (wrap64 y ≤ 60)) = b
 cases a <;> cases b <;> rfl
theorem specPiece_f (x : S57) : spec_l07Piece.f x.f0 x.f1 x.f2 = some (okPiece x) := by
 unfold spec_l07Piece.f okPiece
 rw [same_in, same_in, same_in]
 generalize (decide (1 ≤ wrap64 x.f0) && decide (wrap64 x.f0 ≤ 3)) = a
 generalize (decide (1 ≤ wrap64 x.f1) && decide (wrap64 x.f1 ≤ 60)) = b
 generalize (decide (0 ≤ wrap64 x.f2) && decide (wrap64 x.f2 ≤ 1000)) = c
 cases a <;> cases b <;> cases c <;> rfl
def codeOf (l : List S57) : Int := if l.any (fun p => !okPiece p) = true then 1 else if l.length ≤ 8 then 0 else 3
def codeIron (x y : Int) (l : List S57) : Int := if okIron x y = true then codeOf l else 1
theorem pieceCode_ev (l : List S57) : Ev (fun k => impl_pieceCode.f k l) (codeOf l) := by
 have e := firstOf_ev [if (!l.any (fun p => !okPiece p)) = true then 0 else 1, if decide ((l.length : Int) ≤ 8) = true then 0 else 3] (by simp)
 have q : firstNZ [if (!l.any (fun p => !okPiece p)) = true then 0 else 1, if decide ((l.length : Int) ≤ 8) = true then 0 else 3] = codeOf l := by
  unfold codeOf
  cases h : l.any (fun p => !okPiece p) with
  | true => rfl
  | false =>
   by_cases c : l.length ≤ 8
   · rw [if_pos c, decide_eq_true (by omega)]; rfl
   · rw [if_neg c, decide_eq_false (by omega)]; rfl
 rw [q] at e
 refine Ev.congr (f := fun k => (impl_firstOf.f k [if (!l.any (fun p => !okPiece p)) = true then 0 else 1, if decide ((l.length : Int) ≤ 8) = true then 0 else 3]).bind fun t => some t) (fun k => ?_) (Ev.bind e (Ev.const rfl))
 unfold impl_pieceCode.f
 rw [Option.bind_some, unless_b, unless_b]
 rfl
theorem ironCode_ev (x y : Int) (l : List S57) : Ev (fun k => impl_ironCode.f k x y l) (codeIron x y l) := by
 have p := pieceCode_ev l
 refine Ev.congr (f := fun k => (impl_pieceCode.f k l).bind fun t => (impl_firstOf.f k [if okIron x y = true then 0 else 1, t]).bind fun t => some t) (fun k => ?_) (Ev.bind p ?_)
 · unfold impl_ironCode.f
   rw [implIron_f, Option.bind_some, unless_b]
   rfl
 · have e := firstOf_ev [if okIron x y = true then 0 else 1, codeOf l] (by simp)
   have q : firstNZ [if okIron x y = true then 0 else 1, codeOf l] = codeIron x y l := by
    unfold codeIron
    cases okIron x y with
    | true =>
     show (if (0 : Int) = 0 then (if codeOf l = 0 then 0 else codeOf l) else 0) = codeOf l
     rw [if_pos rfl]
     split
     · rename_i h; exact h.symm
     · rfl
    | false => rfl
   rw [q] at e
   exact Ev.bind e (Ev.const rfl)
theorem asked_ev (x y : Int) (l : List S57) (hm : l.length ≤ 4611686018427387904) : Ev (fun k => spec_l07Asked.f k x y l) (codeIron x y l) := by
 unfold codeIron
 refine Ev.congr (f := fun k => if okIron x y = true then spec_l07Asked.l0 k l 0 else some 1) (fun k => by unfold spec_l07Asked.f; rw [specIron_f]; rfl) ?_
 by_cases ok : okIron x y = true
 · rw [if_pos ok]
   refine Ev.ite_t ok ?_
   refine Ev.loop (L := fun k s => spec_l07Asked.l0 k l s) (fun s d => ∃ i : Nat, i + d = l.length ∧ s = (i : Int) ∧ (l.drop i).any (fun p => !okPiece p) = l.any (fun p => !okPiece p)) ?_ l.length 0 ⟨0, by omega, rfl, rfl⟩
   rintro s d ⟨i, hd, rfl, hf⟩
   by_cases c : i < l.length
   · have e : l.drop i = l[i] :: l.drop (i + 1) := List.drop_eq_getElem_cons c
     rw [e, List.any_cons] at hf
     cases q : okPiece l[i] with
     | true =>
      refine .inr ⟨((i + 1 : Nat) : Int), d - 1, by omega, ⟨i + 1, by omega, rfl, ?_⟩, 0, fun k _ => ?_⟩
      · rw [← hf, q]; rfl
      · rw [spec_l07Asked.l0]
        rw [if_pos (by omega), if_pos (by omega), rd57_lt l i c, specPiece_f, q, Option.bind_some, if_pos rfl, w64 _ (by omega) (by omega)]
        rfl
     | false =>
      refine .inl ⟨0, fun k _ => ?_⟩
      rw [spec_l07Asked.l0]
      rw [if_pos (by omega), if_pos (by omega), rd57_lt l i c, specPiece_f, q, Option.bind_some, if_neg (by decide)]
      unfold codeOf
      rw [← hf, q]
      rfl
   · obtain rfl : i = l.length := by omega
     refine .inl ⟨0, fun k _ => ?_⟩
     rw [spec_l07Asked.l0]
     rw [if_neg (by omega)]
     unfold codeOf
     rw [← hf, List.drop_length]
     by_cases c8 : l.length ≤ 8
     · rw [if_neg (by omega), if_neg (by simp), if_pos c8]
     · rw [if_pos (by omega), if_neg (by simp), if_neg c8]
 · rw [if_neg ok]
   exact Ev.ite_f ok (Ev.const rfl)
theorem code_zero (x y : Int) (l : List S57) (h : codeIron x y l = 0) : okIron x y = true ∧ l.length ≤ 8 ∧ ∀ p ∈ l, okPiece p = true := by
 unfold codeIron codeOf at h
 by_cases o : okIron x y = true
 · rw [if_pos o] at h
   by_cases a : l.any (fun p => !okPiece p) = true
   · rw [if_pos a] at h; omega
   · rw [if_neg a] at h
     by_cases c : l.length ≤ 8
     · refine ⟨o, c, fun p hp => ?_⟩
       have := a
       rw [List.any_eq_true] at this
       cases q : okPiece p with
       | true => rfl
       | false => exact absurd ⟨p, hp, by rw [q]; rfl⟩ this
     · rw [if_neg c] at h; omega
 · rw [if_neg o] at h; omega
theorem okPiece_bd (p : S57) (h0 : -128 ≤ p.f0 ∧ p.f0 ≤ 127) (h1 : -128 ≤ p.f1 ∧ p.f1 ≤ 127) (h2 : -32768 ≤ p.f2 ∧ p.f2 ≤ 32767) (h : okPiece p = true) : wrap64 p.f0 = p.f0 ∧ wrap64 p.f1 = p.f1 ∧ wrap64 p.f2 = p.f2 ∧ 1 ≤ p.f0 ∧ p.f0 ≤ 3 ∧ 1 ≤ p.f1 ∧ p.f1 ≤ 60 ∧ 0 ≤ p.f2 ∧ p.f2 ≤ 1000 := by
 have a : wrap64 p.f0 = p.f0 := w64 _ (by omega) (by omega)
 have b : wrap64 p.f1 = p.f1 := w64 _ (by omega) (by omega)
 have c : wrap64 p.f2 = p.f2 := w64 _ (by omega) (by omega)
 unfold okPiece at h
 rw [a, b, c] at h
 simp only [Bool.and_eq_true, decide_eq_true_eq] at h
 refine ⟨a, b, c, ?_⟩
 omega
theorem okIron_bd (x y : Int) (hx : -128 ≤ x ∧ x ≤ 127) (hy : -128 ≤ y ∧ y ≤ 127) (h : okIron x y = true) : wrap64 x = x ∧ wrap64 y = y ∧ 0 ≤ x ∧ x ≤ 60 ∧ 0 ≤ y ∧ y ≤ 60 := by
 have a : wrap64 x = x := w64 _ (by omega) (by omega)
 have b : wrap64 y = y := w64 _ (by omega) (by omega)
 unfold okIron at h
 rw [a, b] at h
 simp only [Bool.and_eq_true, decide_eq_true_eq] at h
 refine ⟨a, b, ?_⟩
 omega
end Go.Proofs.Ythkccaclmodjiaa.I
end
