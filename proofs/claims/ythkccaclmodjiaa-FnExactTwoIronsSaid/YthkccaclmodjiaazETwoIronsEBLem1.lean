import Derived.Test.YthkccaclmodjiaazETwoIronsI0
import Derived.Test.YthkccaclmodjiaazETwoIronsI2
import Derived.Test.YthkccaclmodjiaazETwoIronsI5
import Derived.Test.YthkccaclmodjiaazETwoIronsEListsPiece
import Derived.Test.YthkccaclmodjiaazETwoIronsI1
import Derived.Test.YthkccaclmodjiaazETwoIronsI3
import Derived.Test.YthkccaclmodjiaazETwoIronsI4
section
namespace Go.Proofs.Ythkccaclmodjiaa.I
open Go.RowKit Go.Proofs.YthkccaclmodjiaaW.PrintWords Go.Proofs.YthkccaclmodjiaaW.PrintLast Go.Proofs.YthkccaclmodjiaaW.PrintMore
attribute [local go_sem] max2_int min2_int max_two min_two max_three min_three max_four min_four   -- for this text's walks alone
set_option linter.unusedVariables false
set_option linter.unusedSimpArgs false
def impl_ironCode.f (k : Nat) (a0_0 : Int) (a0_1 : Int) (l1 : List (S57)) : Option (Int) := (impl_ValidIron.f a0_0 a0_1).bind fun t148 => ((impl_unless.f t148 1).bind fun t149 => ((impl_pieceCode.f k l1).bind fun t150 => ((impl_firstOf.f k (([t149, t150] : List Int))).bind fun t154 => (some t154))))
theorem impl_ironCode.mono : ∀ a0 a1 a2 k, LeO (impl_ironCode.f k a0 a1 a2) (impl_ironCode.f (k + 1) a0 a1 a2) := by
  intro a0 a1 a2 k
  unfold impl_ironCode.f
  repeat' first
      | (with_reducible exact impl_firstOf.mono _ _)
      | (with_reducible exact impl_pieceCode.mono _ _)
      | (with_reducible exact LeO.refl _)
      | (with_reducible exact LeO.none _)
      | (with_reducible refine LeO.ite ?_ ?_)
      | (with_reducible refine LeO.bind ?_ (fun _ => ?_))
      | exact impl_firstOf.mono _ _
      | exact impl_pieceCode.mono _ _
      | exact LeO.none _
      | refine LeO.ite ?_ ?_
      | refine LeO.bind ?_ (fun _ => ?_)
set_option maxHeartbeats 8000000 in
set_option maxRecDepth 100000 in
theorem impl_ironCode.calls (k : Nat) (a0_0 : Int) (a0_1 : Int) (A1 : Option Addr) (c1 : Nat) (l1 : List (S57)) (r : Int) (w : World) (hr1 : Kd.C k57 w A1 l1.length l1) (hc1 : l1.length ≤ c1) (h : impl_ironCode.f k a0_0 a0_1 l1 = some r) :
    Calls Try.prog 74 #[.agg #[.int .i8 a0_0, .int .i8 a0_1], .slice A1 l1.length c1] w fun e w' => e = .returned (.int .i64 r) ∧ Below w.heap.size w w' := by
  have hu27 := Try.underlying27
  have HR1 := Aside0.mk hr1
  have HC1 := Aside0.mk hc1
  clear hr1 hc1
  have HB := Aside0.mk (Below.refl w.heap.size w)
  have H : ((impl_ValidIron.f a0_0 a0_1).bind fun t148 => ((impl_unless.f t148 1).bind fun t149 => ((impl_pieceCode.f k l1).bind fun t150 => ((impl_firstOf.f k (([t149, t150] : List Int))).bind fun t154 => (some t154))))) = some r := h
  clear h
  replace H := Option.bind_eq_some_iff.mp H
  obtain ⟨t148, A30, H⟩ := H
  replace H : ((impl_unless.f t148 1).bind fun t149 => ((impl_pieceCode.f k l1).bind fun t150 => ((impl_firstOf.f k (([t149, t150] : List Int))).bind fun t154 => (some t154)))) = some r := H
  have A3 := Aside0.mk A30
  clear A30
  replace H := Option.bind_eq_some_iff.mp H
  obtain ⟨t149, A40, H⟩ := H
  replace H : ((impl_pieceCode.f k l1).bind fun t150 => ((impl_firstOf.f k (([t149, t150] : List Int))).bind fun t154 => (some t154))) = some r := H
  have A4 := Aside0.mk A40
  clear A40
  replace H := Option.bind_eq_some_iff.mp H
  obtain ⟨t150, A50, H⟩ := H
  replace H : ((impl_firstOf.f k (([t149, t150] : List Int))).bind fun t154 => (some t154)) = some r := H
  have A5 := Aside0.mk A50
  clear A50
  obtain ⟨y151, hy151⟩ : ∃ y_ : List Int, y_ = (([t149, t150] : List Int)) := ⟨_, rfl⟩
  replace H : ((impl_firstOf.f k y151).bind fun t154 => (some t154)) = some r := by first | (rw [hy151]; with_reducible exact H) | (have H2_ := (Option.bind_some _ _).symm.trans H; rw [hy151]; with_reducible exact H2_) | (have H2_ := (Option.bind_some _ _).symm.trans H; with_reducible exact H2_) | with_reducible exact H | (rw [hy151]; exact H) | exact H
  have Ny151 := Aside0.mk hy151
  clear hy151
  replace H := Option.bind_eq_some_iff.mp H
  obtain ⟨t154, A60, H⟩ := H
  replace H : (some t154) = some r := H
  have A6 := Aside0.mk A60
  clear A60
  obtain rfl := Option.some.inj H
  go_enter Try.func74, Try.ntmps74
  go_wp2_with (first | ((with_reducible refine gate_dst (N := 2) rfl ?_); refine box_event ?hg (N := 2) ?hd (cs := #[.int .i8 a0_0, .int .i8 a0_1]) (t := 27) ?hr ?_; (case hd => rfl); (case hg => rfl); (case hr => first | (go_simp; done) | (go_simp; rfl)); intro gb147 hg w7 hbox hb; have n0_ := Aside0.mk (below_step (by repeat (first | (with_reducible first | exact HB.out | apply below_alloc | apply pw_below_drewN | apply below_drew1) | exact HB.out)) hb); have n1_ := Aside0.mk (hbox); have n2_ := Aside0.mk ((by rw [hg]; exact (below_size (by repeat (first | (with_reducible first | exact HB.out | apply below_alloc | apply pw_below_drewN | apply below_drew1) | exact HB.out))) : w.heap.size ≤ gb147)); have n3_ := Aside0.mk ((by rw [hg]; exact (below_size (by repeat (first | (with_reducible first | exact HB.out | apply below_alloc | apply pw_below_drewN | apply below_drew1) | exact HB.out))) : w.heap.size ≤ gb147)); clear HB; have HB := n0_; have BK147 := n1_; have GW147 := n2_; have GE147 := n3_; clear n0_ n1_ n2_ n3_; clear hb hbox hg; have hcz8_0 : w7.cell? ⟨gb147, 0, none⟩ = some (.int .i8 a0_0) := (blk_cell BK147.out 0).trans rfl; have hcz8_1 : w7.cell? ⟨gb147, 1, none⟩ = some (.int .i8 a0_1) := (blk_cell BK147.out 1).trans rfl; have hfz8_0 := blk_frozen BK147.out 0; have hfz8_1 := blk_frozen BK147.out 1) | ((with_reducible refine gate_callee (f := 68) rfl ?_); refine goesL_ (some 6) rfl rfl Try.func68 (by kernel_rfl) rfl #[.agg #[.int .i8 a0_0, .int .i8 a0_1]] rfl (by (try simp only [List.map_toArray, List.map_cons, List.map_nil]); first | done | rfl | (simp only [List.length_drop, List.length_take]; rfl)) ?_; (with_reducible refine (impl_ValidIron.calls a0_0 a0_1 t148 _ A3.out).mono ?_); rintro e w9 ⟨rfl, hb⟩; refine ⟨_, rfl, ?_⟩; have n0_ := Aside0.mk (blk_below (g := gb147) (o := .cells #[.int .i8 a0_0, .int .i8 a0_1] 27 (0, 0)) (by (with_reducible repeat (first | refine blk_drewN ?_ _ | refine blk_drew ?_ | refine blk_alloc ?_ _)); exact BK147.out) hb); have n1_ := Aside0.mk (below_step (by repeat (first | (with_reducible first | exact HB.out | apply below_alloc | apply pw_below_drewN | apply below_drew1 | refine below_set ?_ GE147.out) | exact HB.out)) hb); clear BK147; clear HB; have BK147 := n0_; have HB := n1_; clear n0_ n1_; (try clear hb); (try clear hb2); (try clear hk); (try clear hi)) | ((with_reducible refine gate_callee (f := 105) rfl ?_); refine goesL_ (some 7) rfl rfl Try.func105 (by kernel_rfl) rfl #[.bool t148, .int .i64 1] rfl (by (try simp only [List.map_toArray, List.map_cons, List.map_nil]); first | done | rfl | (simp only [List.length_drop, List.length_take]; rfl)) ?_; (with_reducible refine (impl_unless.calls t148 1 t149 _ A4.out).mono ?_); rintro e w' ⟨rfl, ⟨nd, rfl⟩⟩; refine ⟨_, rfl, ?_⟩) | ((with_reducible refine gate_callee (f := 106) rfl ?_); refine goesL_ (some 9) rfl rfl Try.func106 (by kernel_rfl) rfl #[.slice A1 l1.length c1] rfl (by (try simp only [List.map_toArray, List.map_cons, List.map_nil]); first | done | rfl | (simp only [List.length_drop, List.length_take]; rfl)) ?_; (with_reducible refine (impl_pieceCode.calls k _ _ l1 t150 _ ?side1 ?side2 A5.out).mono ?_); (case side1 => repeat (first | exact (Kd.C_below HR1.out (by repeat (first | (with_reducible first | exact HB.out | apply below_alloc | apply pw_below_drewN | apply below_drew1 | refine below_set ?_ GE147.out) | exact HB.out))) | (with_reducible refine Kd.C_alloc ?_ _) | (with_reducible refine Kd.C_drewN ?_ _) | (with_reducible refine Kd.C_drew ?_))); (case side2 => exact HC1.out); rintro e w10 ⟨rfl, hb⟩; refine ⟨_, rfl, ?_⟩; have n0_ := Aside0.mk (blk_below (g := gb147) (o := .cells #[.int .i8 a0_0, .int .i8 a0_1] 27 (0, 0)) (by (with_reducible repeat (first | refine blk_drewN ?_ _ | refine blk_drew ?_ | refine blk_alloc ?_ _)); exact BK147.out) hb); have n1_ := Aside0.mk (below_step (by repeat (first | (with_reducible first | exact HB.out | apply below_alloc | apply pw_below_drewN | apply below_drew1 | refine below_set ?_ GE147.out) | exact HB.out)) hb); clear BK147; clear HB; have BK147 := n0_; have HB := n1_; clear n0_ n1_; (try clear hb); (try clear hb2); (try clear hk); (try clear hi)) | ((with_reducible refine gate_dst (N := 10) rfl ?_); refine Kd.R_lit (Kd.int .i64) _ 2 ?hg (N := 10) ?hd (xs := ([t149, t150] : List Int)) (inner := [.int .i64 t149, .int .i64 t150]) (ok := fun _ => True) (okp := fun _ => True) ?hr ?hp (fun _ hk => hk) trivial (Below.refl _ _) (Nat.le_refl _) (by simp) ?_; (case hd => rfl); (case hg => rfl); (case hr => first | (go_simp; done) | (go_simp; rfl)); (case hp => exact (Reps.one (show Kd.M (Kd.int .i64) _ _ _ t149 [.int .i64 t149] from rfl) (Reps.one (show Kd.M (Kd.int .i64) _ _ _ t150 [.int .i64 t150] from rfl) (Reps.none _ _)))); intro v152 w11 ho12 hb hg_ hnew_; clear hg_ hnew_; (first | rw [← Ny151.out] at ho12 | (simp only [Int.reduceToNat] at ho12; rw [← Ny151.out] at ho12)); have n0_ := Aside0.mk (Kd.R_lower ho12 (below_size (by repeat (first | (with_reducible first | exact HB.out | apply below_alloc | apply pw_below_drewN | apply below_drew1 | refine below_set ?_ GE147.out) | exact HB.out)))); have n1_ := Aside0.mk (blk_below (g := gb147) (o := .cells #[.int .i8 a0_0, .int .i8 a0_1] 27 (0, 0)) (by (with_reducible repeat (first | refine blk_drewN ?_ _ | refine blk_drew ?_ | refine blk_alloc ?_ _)); exact BK147.out) hb); have n2_ := Aside0.mk (below_step (by repeat (first | (with_reducible first | exact HB.out | apply below_alloc | apply pw_below_drewN | apply below_drew1 | refine below_set ?_ GE147.out) | exact HB.out)) hb); clear BK147; clear HB; have HO153 := n0_; have BK147 := n1_; have HB := n2_; clear n0_ n1_ n2_; clear hb ho12; obtain ⟨Ao13, co13, eo13⟩ := Kd.R_slice HO153.out; subst eo13) | ((with_reducible refine gate_callee (f := 104) rfl ?_); refine goesL_ (some 11) rfl rfl Try.func104 (by kernel_rfl) rfl #[.slice Ao13 y151.length co13] rfl (by (try simp only [List.map_toArray, List.map_cons, List.map_nil]); first | done | rfl | (simp only [List.length_drop, List.length_take]; rfl)) ?_; (with_reducible refine (impl_firstOf.calls k _ _ y151 t154 _ ?side1 ?side2 A6.out).mono ?_); (case side1 => repeat (first | exact (Kd.R_reads' HO153.out).2.2 | (with_reducible refine Kd.C_alloc ?_ _) | (with_reducible refine Kd.C_drewN ?_ _) | (with_reducible refine Kd.C_drew ?_))); (case side2 => exact (Kd.R_reads' HO153.out).2.1); rintro e w' ⟨rfl, ⟨nd, rfl⟩⟩; refine ⟨_, rfl, ?_⟩))
  go_ret
  exact ⟨by first | rfl | (simp [errW_none, errW_some] <;> rfl) | (simp [*, errW_none, errW_some] <;> rfl), by repeat (first | (with_reducible first | exact HB.out | apply below_alloc | apply pw_below_drewN | apply below_drew1 | refine below_set ?_ GE147.out) | exact HB.out)⟩
end Go.Proofs.Ythkccaclmodjiaa.I
end
section
namespace Go.Proofs.Ythkccaclmodjiaa.I
open Go.RowKit Go.Proofs.YthkccaclmodjiaaW.PrintWords Go.Proofs.YthkccaclmodjiaaW.PrintLast Go.Proofs.YthkccaclmodjiaaW.PrintMore
attribute [local go_sem] max2_int min2_int max_two min_two max_three min_three max_four min_four
set_option linter.unusedVariables false
set_option linter.unusedSimpArgs false
theorem i8_bd {x : Int} (h : (Lit.int .i8 x).wf = true) : -128 ≤ x ∧ x ≤ 127 := by
  simp [Lit.wf, IntKind.min, IntKind.max, IntKind.bits, IntKind.signed] at h
  omega
theorem i16_bd {x : Int} (h : (Lit.int .i16 x).wf = true) : -32768 ≤ x ∧ x ≤ 32767 := by
  simp [Lit.wf, IntKind.min, IntKind.max, IntKind.bits, IntKind.signed] at h
  omega
def firstNZ : List Int → Int
  | [] => 0
  | x :: r => if x = 0 then firstNZ r else x
theorem firstOf_ev (l : List Int) (hm : l.length ≤ 4611686018427387904) : Ev (fun k => impl_firstOf.f k l) (firstNZ l) := by
  refine Ev.loop (L := fun k s => impl_firstOf.l0 k l (l.length : Int) s) (fun s d => ∃ i : Nat, i + d = l.length ∧ s = (i : Int) ∧ firstNZ (l.drop i) = firstNZ l) ?_ l.length 0 ⟨0, by omega, rfl, rfl⟩
  rintro s d ⟨i, hd, rfl, hf⟩
  by_cases c : i < l.length
  · have e : l.drop i = l[i] :: l.drop (i + 1) := List.drop_eq_getElem_cons c
    by_cases q : l[i] = 0
    · refine .inr ⟨((i + 1 : Nat) : Int), d - 1, by omega, ⟨i + 1, by omega, rfl, ?_⟩, 0, fun k _ => ?_⟩
      · rw [← hf, e, firstNZ, if_pos q]
      · rw [impl_firstOf.l0]
        rw [if_pos (by omega), if_pos (by omega), if_pos (by omega), rd_of_lt l i c, if_pos q, w64 _ (by omega) (by omega)]
        rfl
    · refine .inl ⟨0, fun k _ => ?_⟩
      rw [impl_firstOf.l0]
      rw [if_pos (by omega), if_pos (by omega), if_pos (by omega), rd_of_lt l i c, if_neg q, ← hf, e, firstNZ, if_neg q]
  · obtain rfl : i = l.length := by omega
    refine .inl ⟨0, fun k _ => ?_⟩
    rw [impl_firstOf.l0]
    rw [if_neg (by omega), ← hf, List.drop_length]
    rfl
theorem unless_b (b : Bool) (c : Int) : impl_unless.f b c = some (if b = true then 0 else c) := by
  unfold impl_unless.f
  cases b <;> rfl
def okIron (x y : Int) : Bool := (decide (0 ≤ wrap64 x) && decide (wrap64 x ≤ 60)) && (decide (0 ≤ wrap64 y) && decide (wrap64 y ≤ 60))
theorem same_in (a b c : Int) : spec_l00In.f a b c = some (decide (b ≤ a) && decide (a ≤ c)) := by
  unfold spec_l00In.f
  by_cases h : b ≤ a <;> simp [h]
theorem specIron_f (x y : Int) : spec_l07Iron.f x y = some (okIron x y) := by
  unfold spec_l07Iron.f okIron
  rw [same_in, same_in]
  generalize (decide (0 ≤ wrap64 x) && decide (wrap64 x ≤ 60)) = a
  generalize (decide (0 ≤ wrap64 y) && decide (wrap64 y ≤ 60)) = b
  cases a <;> cases b <;> rfl
theorem implIron_f (x y : Int) : impl_ValidIron.f x y = some (okIron x y) := by
  unfold impl_ValidIron.f okIron
  rw [within_f, within_f]
  generalize (decide (0 ≤ wrap64 x) && decide (wrap64 x ≤ 60)) = a
  generalize (decide (0 ≤ wrap64 y) && decide (wrap64 y ≤ 60)) = b
  cases a <;> cases b <;> rfl
theorem specPiece_f (x : S57) : spec_l07Piece.f x.f0 x.f1 x.f2 = some (okPiece x) := by
  unfold spec_l07Piece.f okPiece
  rw [same_in, same_in, same_in]
  generalize (decide (1 ≤ wrap64 x.f0) && decide (wrap64 x.f0 ≤ 3)) = a
  generalize (decide (1 ≤ wrap64 x.f1) && decide (wrap64 x.f1 ≤ 60)) = b
  generalize (decide (0 ≤ wrap64 x.f2) && decide (wrap64 x.f2 ≤ 1000)) = c
  cases a <;> cases b <;> cases c <;> rfl
def codeOf (l : List S57) : Int := if l.any (fun p => !okPiece p) = true then 1 else if l.length ≤ 8 then 0 else 3
def codeIron (x y : Int) (l : List S57) : Int := if okIron x y = true then codeOf l else 1
theorem pieceCode_ev (l : List S57) : Ev (fun k => impl_pieceCode.f k l) (codeOf l) := by
  have e := firstOf_ev [if (!l.any (fun p => !okPiece p)) = true then 0 else 1, if decide ((l.length : Int) ≤ 8) = true then 0 else 3] (by simp)
  have q : firstNZ [if (!l.any (fun p => !okPiece p)) = true then 0 else 1, if decide ((l.length : Int) ≤ 8) = true then 0 else 3] = codeOf l := by
    unfold codeOf
    cases h : l.any (fun p => !okPiece p) with
    | true => rfl
    | false =>
      by_cases c : l.length ≤ 8
      · rw [if_pos c, decide_eq_true (by omega)]; rfl
      · rw [if_neg c, decide_eq_false (by omega)]; rfl
  rw [q] at e
  refine Ev.congr (f := fun k => (impl_firstOf.f k [if (!l.any (fun p => !okPiece p)) = true then 0 else 1, if decide ((l.length : Int) ≤ 8) = true then 0 else 3]).bind fun t => some t) (fun k => ?_) (Ev.bind e (Ev.const rfl))
  unfold impl_pieceCode.f
  rw [Option.bind_some, unless_b, unless_b]
  rfl
theorem ironCode_ev (x y : Int) (l : List S57) : Ev (fun k => impl_ironCode.f k x y l) (codeIron x y l) := by
  have p := pieceCode_ev l
  refine Ev.congr (f := fun k => (impl_pieceCode.f k l).bind fun t => (impl_firstOf.f k [if okIron x y = true then 0 else 1, t]).bind fun t => some t) (fun k => ?_) (Ev.bind p ?_)
  · unfold impl_ironCode.f
    rw [implIron_f, Option.bind_some, unless_b]
    rfl
  · have e := firstOf_ev [if okIron x y = true then 0 else 1, codeOf l] (by simp)
    have q : firstNZ [if okIron x y = true then 0 else 1, codeOf l] = codeIron x y l := by
      unfold codeIron
      cases okIron x y with
      | true =>
        show (if (0 : Int) = 0 then (if codeOf l = 0 then 0 else codeOf l) else 0) = codeOf l
        rw [if_pos rfl]
        split
        · rename_i h; exact h.symm
        · rfl
      | false => rfl
    rw [q] at e
    exact Ev.bind e (Ev.const rfl)
theorem asked_ev (x y : Int) (l : List S57) (hm : l.length ≤ 4611686018427387904) : Ev (fun k => spec_l07Asked.f k x y l) (codeIron x y l) := by
  unfold codeIron
  refine Ev.congr (f := fun k => if okIron x y = true then spec_l07Asked.l0 k l 0 else some 1) (fun k => by unfold spec_l07Asked.f; rw [specIron_f]; rfl) ?_
  by_cases ok : okIron x y = true
  · rw [if_pos ok]
    refine Ev.ite_t ok ?_
    refine Ev.loop (L := fun k s => spec_l07Asked.l0 k l s) (fun s d => ∃ i : Nat, i + d = l.length ∧ s = (i : Int) ∧ (l.drop i).any (fun p => !okPiece p) = l.any (fun p => !okPiece p)) ?_ l.length 0 ⟨0, by omega, rfl, rfl⟩
    rintro s d ⟨i, hd, rfl, hf⟩
    by_cases c : i < l.length
    · have e : l.drop i = l[i] :: l.drop (i + 1) := List.drop_eq_getElem_cons c
      rw [e, List.any_cons] at hf
      cases q : okPiece l[i] with
      | true =>
        refine .inr ⟨((i + 1 : Nat) : Int), d - 1, by omega, ⟨i + 1, by omega, rfl, ?_⟩, 0, fun k _ => ?_⟩
        · rw [← hf, q]; rfl
        · rw [spec_l07Asked.l0]
          rw [if_pos (by omega), if_pos (by omega), rd57_lt l i c, specPiece_f, q, Option.bind_some, if_pos rfl, w64 _ (by omega) (by omega)]
          rfl
      | false =>
        refine .inl ⟨0, fun k _ => ?_⟩
        rw [spec_l07Asked.l0]
        rw [if_pos (by omega), if_pos (by omega), rd57_lt l i c, specPiece_f, q, Option.bind_some, if_neg (by decide)]
        unfold codeOf
        rw [← hf, q]
        rfl
    · obtain rfl : i = l.length := by omega
      refine .inl ⟨0, fun k _ => ?_⟩
      rw [spec_l07Asked.l0]
      rw [if_neg (by omega)]
      unfold codeOf
      rw [← hf, List.drop_length]
      by_cases c8 : l.length ≤ 8
      · rw [if_neg (by omega), if_neg (by simp), if_pos c8]
      · rw [if_pos (by omega), if_neg (by simp), if_neg c8]
  · rw [if_neg ok]
    exact Ev.ite_f ok (Ev.const rfl)
theorem code_zero (x y : Int) (l : List S57) (h : codeIron x y l = 0) : okIron x y = true ∧ l.length ≤ 8 ∧ ∀ p ∈ l, okPiece p = true := by
  unfold codeIron codeOf at h
  by_cases o : okIron x y = true
  · rw [if_pos o] at h
    by_cases a : l.any (fun p => !okPiece p) = true
    · rw [if_pos a] at h; omega
    · rw [if_neg a] at h
      by_cases c : l.length ≤ 8
      · refine ⟨o, c, fun p hp => ?_⟩
        have := a
        rw [List.any_eq_true] at this
        cases q : okPiece p with
        | true => rfl
        | false => exact absurd ⟨p, hp, by rw [q]; rfl⟩ this
      · rw [if_neg c] at h; omega
  · rw [if_neg o] at h; omega
theorem okPiece_bd (p : S57) (h0 : -128 ≤ p.f0 ∧ p.f0 ≤ 127) (h1 : -128 ≤ p.f1 ∧ p.f1 ≤ 127) (h2 : -32768 ≤ p.f2 ∧ p.f2 ≤ 32767) (h : okPiece p = true) : wrap64 p.f0 = p.f0 ∧ wrap64 p.f1 = p.f1 ∧ wrap64 p.f2 = p.f2 ∧ 1 ≤ p.f0 ∧ p.f0 ≤ 3 ∧ 1 ≤ p.f1 ∧ p.f1 ≤ 60 ∧ 0 ≤ p.f2 ∧ p.f2 ≤ 1000 := by
  have a : wrap64 p.f0 = p.f0 := w64 _ (by omega) (by omega)
  have b : wrap64 p.f1 = p.f1 := w64 _ (by omega) (by omega)
  have c : wrap64 p.f2 = p.f2 := w64 _ (by omega) (by omega)
  unfold okPiece at h
  rw [a, b, c] at h
  simp only [Bool.and_eq_true, decide_eq_true_eq] at h
  refine ⟨a, b, c, ?_⟩
  omega
theorem okIron_bd (x y : Int) (hx : -128 ≤ x ∧ x ≤ 127) (hy : -128 ≤ y ∧ y ≤ 127) (h : okIron x y = true) : wrap64 x = x ∧ wrap64 y = y ∧ 0 ≤ x ∧ x ≤ 60 ∧ 0 ≤ y ∧ y ≤ 60 := by
  have a : wrap64 x = x := w64 _ (by omega) (by omega)
  have b : wrap64 y = y := w64 _ (by omega) (by omega)
  unfold okIron at h
  rw [a, b] at h
  simp only [Bool.and_eq_true, decide_eq_true_eq] at h
  refine ⟨a, b, ?_⟩
  omega
end Go.Proofs.Ythkccaclmodjiaa.I
end
