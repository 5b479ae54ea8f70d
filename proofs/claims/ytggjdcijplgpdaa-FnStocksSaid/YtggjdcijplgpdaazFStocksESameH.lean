import Derived.Test.YtggjdcijplgpdaazFStocksEPutB
import Derived.Test.YtggjdcijplgpdaazFStocksEDayOf
import Derived.Test.YtggjdcijplgpdaazFStocksECloneSt
import Derived.Shelf.Abstract
import Derived.Deep.QuietTactic
import Derived.BigQuiet
import Derived.ChangeKeysEq
import Derived.Test.YtggjdcijplgpdaazFStocksEInH
section
namespace Go.Proofs.Ytggjdcijplgpdaa.H
open Go.RowKit Go.Proofs.YtggjdcijplgpdaaW.PrintWords Go.Proofs.YtggjdcijplgpdaaW.PrintLast Go.Proofs.YtggjdcijplgpdaaW.PrintMore
attribute [local go_sem] max2_int min2_int max_two min_two max_three min_three max_four min_four
set_option linter.unusedVariables false
set_option linter.unusedSimpArgs false
theorem eqItems_self {P : Program} {d e c : Nat} {xs : Array Value} {w : World} : ∀ is : List Nat, (∀ i ∈ is, ∃ v, (part e xs (i * c)).run P w = .ok v w ∧ (Op.equalIn d e v v).run P w = .ok true w) → (Op.eqItems d e c xs xs is).run P w = .ok true w
 | [], _ => by simp [Op.eqItems]
 | i :: is, h => by
  obtain ⟨v, h1, h2⟩ := h i (by simp)
  simp only [Op.eqItems, Sem.run_bind, h1, h2, Result.andThen_ok]
  simpa using eqItems_self is (fun j hj => h j (by simp [hj]))
theorem eq23_self (d : Nat) (x : Int) (w : World) : (Op.equalIn (d + 1) 23 (.int .i16 x) (.int .i16 x)).run Try.prog w = .ok true w := by
 simp only [Op.equalIn, Sem.run_bind, run_underlying Try.underlying23, Result.andThen_ok]
 simp
theorem eq21_self (d : Nat) (x : Int) (w : World) : (Op.equalIn (d + 1) 21 (.int .i32 x) (.int .i32 x)).run Try.prog w = .ok true w := by
 simp only [Op.equalIn, Sem.run_bind, run_underlying Try.underlying21, Result.andThen_ok]
 simp
set_option maxRecDepth 100000 in
theorem part23 {xs : Array Value} {o : Nat} {v : Value} (h : xs[o]? = some v) (w : World) : (part 23 xs o).run Try.prog w = .ok v w := by
 simp [part, isAgg, run_underlying Try.underlying23, h]
set_option maxRecDepth 100000 in
theorem part21 {xs : Array Value} {o : Nat} {v : Value} (h : xs[o]? = some v) (w : World) : (part 21 xs o).run Try.prog w = .ok v w := by
 simp [part, isAgg, run_underlying Try.underlying21, h]
theorem some53 : (Try.prog.info? 53).isSome = true := by kernel_rfl
theorem some23 : (Try.prog.info? 23).isSome = true := by kernel_rfl
theorem cells53 : Try.prog.cellsOf 53 = 8 := by kernel_rfl
set_option maxRecDepth 100000 in
theorem part53 {xs : Array Value} {o : Nat} (w : World) : (part 53 xs o).run Try.prog w = .ok (.agg (xs.extract o (o + 8))) w := by
 obtain ⟨i, hi⟩ := Option.isSome_iff_exists.mp some53
 have hs : (sizeOf 53).run Try.prog w = .ok 8 w := by rw [run_sizeOf w hi, cells53]
 simp [part, isAgg, run_underlying Try.underlying53, hs]
theorem eq53_self (d : Nat) (xs : Array Value) (w : World) (h : ∀ i, i < 8 → ∃ x : Int, xs[i]? = some (.int .i16 x)) : (Op.equalIn (d + 2) 53 (.agg xs) (.agg xs)).run Try.prog w = .ok true w := by
 obtain ⟨ti, hti⟩ := Option.isSome_iff_exists.mp some23
 rw [run_equalIn_array w (d + 1) xs xs Try.underlying53 hti]
 refine eqItems_self _ fun i hi => ?_
 obtain ⟨x, hx⟩ := h i (List.mem_range.mp hi)
 have hc : Try.prog.cellsOf 23 = 1 := by kernel_rfl
 rw [hc, Nat.mul_one]
 exact ⟨_, part23 hx w, eq23_self d x w⟩
theorem stC_16 (s : S55) {i : Nat} (h : i < 24) : ∃ x : Int, (stC s).toArray[i]? = some (.int .i16 x) := by
 match i, h with
 | 0, _ => exact ⟨_, rfl⟩
 | 1, _ => exact ⟨_, rfl⟩
 | 2, _ => exact ⟨_, rfl⟩
 | 3, _ => exact ⟨_, rfl⟩
 | 4, _ => exact ⟨_, rfl⟩
 | 5, _ => exact ⟨_, rfl⟩
 | 6, _ => exact ⟨_, rfl⟩
 | 7, _ => exact ⟨_, rfl⟩
 | 8, _ => exact ⟨_, rfl⟩
 | 9, _ => exact ⟨_, rfl⟩
 | 10, _ => exact ⟨_, rfl⟩
 | 11, _ => exact ⟨_, rfl⟩
 | 12, _ => exact ⟨_, rfl⟩
 | 13, _ => exact ⟨_, rfl⟩
 | 14, _ => exact ⟨_, rfl⟩
 | 15, _ => exact ⟨_, rfl⟩
 | 16, _ => exact ⟨_, rfl⟩
 | 17, _ => exact ⟨_, rfl⟩
 | 18, _ => exact ⟨_, rfl⟩
 | 19, _ => exact ⟨_, rfl⟩
 | 20, _ => exact ⟨_, rfl⟩
 | 21, _ => exact ⟨_, rfl⟩
 | 22, _ => exact ⟨_, rfl⟩
 | 23, _ => exact ⟨_, rfl⟩
 | n + 24, h => omega
theorem fields_st (s : S55) (d : Nat) (w : World) (f0 f1 f2 f3 : Field) (h0 : (f0.name == "_") = false ∧ f0.type = 53 ∧ f0.offset = 0) (h1 : (f1.name == "_") = false ∧ f1.type = 53 ∧ f1.offset = 8) (h2 : (f2.name == "_") = false ∧ f2.type = 53 ∧ f2.offset = 16) (h3 : (f3.name == "_") = false ∧ f3.type = 21 ∧ f3.offset = 24) :
 (Op.eqFields (d + 2) (stC s).toArray (stC s).toArray [f0, f1, f2, f3]).run Try.prog w = .ok true w := by
 have he : ∀ o, o + 8 ≤ 24 → (Op.equalIn (d + 2) 53 (.agg ((stC s).toArray.extract o (o + 8))) (.agg ((stC s).toArray.extract o (o + 8)))).run Try.prog w = .ok true w := fun o ho => eq53_self d _ w fun i hi => by
  obtain ⟨x, hx⟩ := stC_16 s (show o + i < 24 by omega)
  refine ⟨x, ?_⟩
  rw [Array.getElem?_extract, if_pos (by have : (stC s).toArray.size = 25 := rfl; omega)]
  exact hx
 have hp : ∀ (f : Field) (o : Nat), f.type = 53 → f.offset = o → (part f.type (stC s).toArray f.offset).run Try.prog w = .ok (.agg ((stC s).toArray.extract o (o + 8))) w := fun f o h1 h2 => by rw [h1, h2]; exact part53 w
 have hq : ∀ (f : Field) (o : Nat), f.type = 53 → o + 8 ≤ 24 → (Op.equalIn (d + 2) f.type (.agg ((stC s).toArray.extract o (o + 8))) (.agg ((stC s).toArray.extract o (o + 8)))).run Try.prog w = .ok true w := fun f o h1 h2 => by rw [h1]; exact he o h2
 have hl : (part f3.type (stC s).toArray f3.offset).run Try.prog w = .ok (.int .i32 s.f3) w := by rw [h3.2.1, h3.2.2]; exact part21 rfl w
 refine eqf_cons (r := true) (s := true) h0.1 (hp f0 0 h0.2.1 h0.2.2) (hp f0 0 h0.2.1 h0.2.2) (hq f0 0 h0.2.1 (by decide)) ?_
 refine eqf_cons (r := true) (s := true) h1.1 (hp f1 8 h1.2.1 h1.2.2) (hp f1 8 h1.2.1 h1.2.2) (hq f1 8 h1.2.1 (by decide)) ?_
 refine eqf_cons (r := true) (s := true) h2.1 (hp f2 16 h2.2.1 h2.2.2) (hp f2 16 h2.2.1 h2.2.2) (hq f2 16 h2.2.1 (by decide)) ?_
 exact eqf_last h3.1 hl hl (by rw [h3.2.1]; exact eq21_self _ _ _)
theorem eq55_self (s : S55) (d : Nat) (w : World) : (Op.equalIn (d + 3) 55 (.agg (stC s).toArray) (.agg (stC s).toArray)).run Try.prog w = .ok true w :=
 eqA_of Try.underlying55 (by kernel_rfl) (fields_st s d w _ _ _ _ ⟨rfl, rfl, rfl⟩ ⟨rfl, rfl, rfl⟩ ⟨rfl, rfl, rfl⟩ ⟨rfl, rfl, rfl⟩)
set_option maxRecDepth 100000 in
theorem neq55_self (s : S55) (x y : Operand) (w : World) : ((do eqGuard .neq 55 x y (.agg (stC s).toArray) (.agg (stC s).toArray); binOp .neq 55 (.agg (stC s).toArray) (.agg (stC s).toArray) : Sem Value)).run Try.prog w = .ok (.bool false) w := by
 rw [Sem.run_bind, run_eqGuard_agg w _ _ _ _ _ _ (by kernel_rfl), Result.andThen_ok, run_neq_struct, show (10000 : Nat) = 9997 + 3 by rfl, eq55_self]
 rfl
theorem exec_neq55 {a : Act} {o : Oper} {w : World} {x y : Operand} {s : S55} {r : TypeId} (ho : o.op = .binOp .neq 55 x y r) (hx : a.eval x = .agg (stC s).toArray) (hy : a.eval y = .agg (stC s).toArray) : (execOp a.eval o).run Try.prog w = .ok (.value (.bool false)) w := by
 unfold execOp
 simp only [ho, hx, hy, Sem.run_bind]
 have h := neq55_self s x y w
 rw [Sem.run_bind] at h
 rw [h]
 rfl
end Go.Proofs.Ytggjdcijplgpdaa.H
end
section
namespace Go.Proofs.Ytggjdcijplgpdaa.H
open Go.RowKit Go.Proofs.YtggjdcijplgpdaaW.PrintWords Go.Proofs.YtggjdcijplgpdaaW.PrintLast Go.Proofs.YtggjdcijplgpdaaW.PrintMore
attribute [local go_sem] max2_int min2_int max_two min_two max_three min_three max_four min_four
set_option linter.unusedVariables false
set_option linter.unusedSimpArgs false
set_option maxHeartbeats 8000000 in
set_option maxRecDepth 100000 in
theorem sameHouse_calls (w : World) (A0 A1 : Option Addr) (c0 c1 : Nat) (l : List S55) (a1 a2 a3 : Int) (hr0 : Kd.C k55 w A0 l.length l) (hr1 : Kd.C k55 w A1 l.length l) :
 Calls Try.prog 27 #[.agg #[.slice A0 l.length c0, .int .i16 a1, .int .i8 a2, .int .i16 a3], .agg #[.slice A1 l.length c1, .int .i16 a1, .int .i8 a2, .int .i16 a3]] w fun e w' => e = .returned (.bool true) ∧ Below w.heap.size w w' := by
 have mixed : Try.prog.follows .mixedOrders = true := by kernel_rfl
 have hu32 := Try.underlying32
 have HMAX := Kd.C_max hr0
 have n1 : (a1 != a1) = false := by simp
 have n2 : (a2 != a2) = false := by simp
 have n3 : (a3 != a3) = false := by simp
 have n4 : ((l.length : Int) != (l.length : Int)) = false := by simp
 have HR0 := Aside0.mk hr0
 have HR1 := Aside0.mk hr1
 have HMX := Aside0.mk HMAX
 clear hr0 hr1 HMAX
 go_enter Try.func27, Try.ntmps27
 have ST0 := Aside0.mk True.intro
 go_wp2_with (first
  | (have s_ := ST0; (with_reducible refine gate_dst (N := 2) rfl ?_); refine box_event ?hg (N := 2) ?hd (cs := #[.slice A0 l.length c0, .int .i16 a1, .int .i8 a2, .int .i16 a3]) (t := 32) ?hr ?_; (case hd => rfl); (case hg => rfl); (case hr => first | (go_simp; done) | (go_simp; rfl)); intro ga hg_ w1 hbox hb; have GBA := Aside0.mk (by rw [hg_]; exact Nat.le_refl _ : w.heap.size ≤ ga); have HB := Aside0.mk hb; have BA := Aside0.mk hbox; clear hb hbox hg_; have qBA0 : w1.cell? ⟨ga, 0, none⟩ = some (.slice A0 l.length c0) := (blk_cell BA.out 0).trans rfl; have qBA1 : w1.cell? ⟨ga, 1, none⟩ = some (.int .i16 a1) := (blk_cell BA.out 1).trans rfl; have qBA2 : w1.cell? ⟨ga, 2, none⟩ = some (.int .i8 a2) := (blk_cell BA.out 2).trans rfl; have qBA3 : w1.cell? ⟨ga, 3, none⟩ = some (.int .i16 a3) := (blk_cell BA.out 3).trans rfl; clear ST0 s_; have ST1 := Aside0.mk True.intro)
  | (have s_ := ST1; (with_reducible refine gate_dst (N := 3) rfl ?_); refine box_event ?hg (N := 3) ?hd (cs := #[.slice A1 l.length c1, .int .i16 a1, .int .i8 a2, .int .i16 a3]) (t := 32) ?hr ?_; (case hd => rfl); (case hg => rfl); (case hr => first | (go_simp; done) | (go_simp; rfl)); intro gb hg_ w2 hbox hb; have GBB := Aside0.mk (by rw [hg_]; exact HB.out.size : w.heap.size ≤ gb); have NBA_BB := Aside0.mk (by rw [hg_]; exact Nat.ne_of_lt (blk_lt BA.out) : ga ≠ gb); replace HB := Aside0.mk (below_step HB.out hb); replace BA := Aside0.mk (blk_below BA.out hb); have BB := Aside0.mk hbox; clear hb hbox hg_; clear qBA0 qBA1 qBA2 qBA3; have qBA0 : w2.cell? ⟨ga, 0, none⟩ = some (.slice A0 l.length c0) := (blk_cell BA.out 0).trans rfl; have qBA1 : w2.cell? ⟨ga, 1, none⟩ = some (.int .i16 a1) := (blk_cell BA.out 1).trans rfl; have qBA2 : w2.cell? ⟨ga, 2, none⟩ = some (.int .i8 a2) := (blk_cell BA.out 2).trans rfl; have qBA3 : w2.cell? ⟨ga, 3, none⟩ = some (.int .i16 a3) := (blk_cell BA.out 3).trans rfl; have qBB0 : w2.cell? ⟨gb, 0, none⟩ = some (.slice A1 l.length c1) := (blk_cell BB.out 0).trans rfl; have qBB1 : w2.cell? ⟨gb, 1, none⟩ = some (.int .i16 a1) := (blk_cell BB.out 1).trans rfl; have qBB2 : w2.cell? ⟨gb, 2, none⟩ = some (.int .i8 a2) := (blk_cell BB.out 2).trans rfl; have qBB3 : w2.cell? ⟨gb, 3, none⟩ = some (.int .i16 a3) := (blk_cell BB.out 3).trans rfl; clear ST1 s_; have ST2 := Aside0.mk True.intro))
 clear qBA0 qBA1 qBA2 qBA3 qBB0 qBB1 qBB2 qBB3
 have HB2 := HB
 clear HB
 go_loopg [5] l.length (fun gk v5 wr => ∃ (i : Nat), i ≤ l.length ∧ l.length - i ≤ gk ∧ v5 = .int .i64 i ∧ Aside0 (Below w2.heap.size w2 wr))
 case atStart => exact ⟨0, by omega, by omega, rfl, ⟨Below.refl _ _⟩⟩
 case round =>
  obtain ⟨i, hi, hgk, rfl, BW⟩ := hrel
  have q0 : wr.cell? ⟨ga, 0, none⟩ = some (.slice A0 l.length c0) := (blk_cell (blk_below BA.out BW.out) 0).trans rfl
  by_cases hlt : i < l.length
  · have hltz : (i : Int) < (l.length : Int) := by omega
    obtain ⟨ad0, e0⟩ : ∃ ad, A0 = some ad := by
     obtain ⟨ad, c, e, _⟩ := Kd.C_get HR0.out z55 (i : Int) (by omega) hltz
     exact ⟨ad, e⟩
    obtain ⟨ad1, e1⟩ : ∃ ad, A1 = some ad := by
     obtain ⟨ad, c, e, _⟩ := Kd.C_get HR1.out z55 (i : Int) (by omega) hltz
     exact ⟨ad, e⟩
    subst e0 e1
    have hs0 := fun w' hb => elem_cells (Kd.C_below HR0.out (show Below w.heap.size w w' from hb)) i hlt
    have hs1 := fun w' hb => elem_cells (Kd.C_below HR1.out (show Below w.heap.size w w' from hb)) i hlt
    generalize rd_T55 l ((i : Nat) : Int) = x at hs0 hs1
    have HS := Aside0.mk (show ∀ w', Below wr.heap.size wr w' → w'.cell? ⟨ga, 0, none⟩ = some (.slice (some ad0) l.length c0) ∧ w'.cell? ⟨gb, 0, none⟩ = some (.slice (some ad1) l.length c1) ∧ (∀ j v, (stC x)[j]? = some v → w'.cell? ((ad0.add (i * 25)).add j) = some v) ∧ (∀ j v, (stC x)[j]? = some v → w'.cell? ((ad1.add (i * 25)).add j) = some v) from fun w' h => by
     have hb := below_step BW.out h
     have hw := HB2.out.trans (Below.mono hb HB2.out.size)
     exact ⟨(blk_cell (blk_below BA.out hb) 0).trans rfl, (blk_cell (blk_below BB.out hb) 0).trans rfl, hs0 w' hw, hs1 w' hw⟩)
    clear hs0 hs1
    have HLI := Aside0.mk hlt
    go_wp2
    refine start_ (n := 11) (S := fun w' => w'.cell? ⟨ga, 0, none⟩ = some (.slice (some ad0) l.length c0) ∧ w'.cell? ⟨gb, 0, none⟩ = some (.slice (some ad1) l.length c1) ∧ (∀ j v, (stC x)[j]? = some v → w'.cell? ((ad0.add (i * 25)).add j) = some v) ∧ (∀ j v, (stC x)[j]? = some v → w'.cell? ((ad1.add (i * 25)).add j) = some v)) (ds := []) #[false, false, false, false, false, false, false, false, false, false, false] (by kernel_rfl) rfl rfl ⟨(HS.out _ (below_drew1 (Below.refl _ _))).1, (HS.out _ (below_drew1 (Below.refl _ _))).2.1, (HS.out _ (below_drew1 (Below.refl _ _))).2.2.1, (HS.out _ (below_drew1 (Below.refl _ _))).2.2.2⟩ (fun hHeld => ?_)
    have HB := Aside0.mk (show Below wr.heap.size wr wr.drew from below_drew1 (Below.refl _ _))
    generalize wr.drew = wd at HB hHeld ⊢
    refine pure_ (i := 0) (N := some 41) (v := ?_) (a' := ?_) #[true, false, false, false, false, false, false, false, false, false, false] rfl rfl (by kernel_rfl) (fun _ _ _ h => h) (Or.inl ⟨by rfl, ?_⟩) ?_ ?_
    rotate_left
    · intro w'
      go_simp
      with_reducible rfl
    rotate_left
    · exact putB
    refine pure_ (i := 2) (N := some 43) (v := ?_) (a' := ?_) #[true, false, true, false, false, false, false, false, false, false, false] rfl rfl (by kernel_rfl) (fun _ _ _ h => h) (Or.inl ⟨by rfl, ?_⟩) ?_ ?_
    rotate_left
    · intro w'
      go_simp
      with_reducible rfl
    rotate_left
    · exact putB
    refine pure_ (i := 5) (N := some 46) (v := ?_) (a' := ?_) #[true, false, true, false, false, true, false, false, false, false, false] rfl rfl (by kernel_rfl) (fun _ _ _ h => h) (Or.inl ⟨by rfl, ?_⟩) ?_ ?_
    rotate_left
    · intro w'
      go_simp
      with_reducible rfl
    rotate_left
    · exact putB
    refine pure_ (i := 7) (N := some 48) (v := ?_) (a' := ?_) #[true, false, true, false, false, true, false, true, false, false, false] rfl rfl (by kernel_rfl) (fun _ _ _ h => h) (Or.inl ⟨by rfl, ?_⟩) ?_ ?_
    rotate_left
    · intro w'
      go_simp
      with_reducible rfl
    rotate_left
    · exact putB
    refine take_ (i := 1) (N := some 42) (v := ?_) (a' := ?_) #[true, true, true, false, false, true, false, true, false, false, false] rfl rfl (by kernel_rfl) (fun _ _ _ h => h) (Or.inl ⟨by rfl, ?_⟩) hHeld ?_ ?_
    rotate_left
    · rintro w' ⟨s0, s1, s2, s3⟩
      go_simp
      with_reducible rfl
    rotate_left
    · exact putB
    refine pure_ (i := 3) (N := some 44) (v := ?_) (a' := ?_) #[true, true, true, true, false, true, false, true, false, false, false] rfl rfl (by kernel_rfl) (fun _ _ _ h => h) (Or.inl ⟨by rfl, ?_⟩) ?_ ?_
    rotate_left
    · intro w'
      go_simp
      with_reducible rfl
    rotate_left
    · exact putB
    refine take_ (i := 4) (N := some 45) (v := ?_) (a' := ?_) #[true, true, true, true, true, true, false, true, false, false, false] rfl rfl (by kernel_rfl) (fun _ _ _ h => h) (Or.inl ⟨by rfl, ?_⟩) hHeld ?_ ?_
    rotate_left
    · rintro w' ⟨s0, s1, s2, s3⟩
      refine mem_load (t := 55) (x := .tmp 44) (ad := ad0.add (i * 25)) (cs := stC x) ?_ ?_ s2 Try.underlying55 rfl (by kernel_rfl) <;> rfl
    rotate_left
    · exact putB
    refine take_ (i := 6) (N := some 47) (v := ?_) (a' := ?_) #[true, true, true, true, true, true, true, true, false, false, false] rfl rfl (by kernel_rfl) (fun _ _ _ h => h) (Or.inl ⟨by rfl, ?_⟩) hHeld ?_ ?_
    rotate_left
    · rintro w' ⟨s0, s1, s2, s3⟩
      go_simp
      with_reducible rfl
    rotate_left
    · exact putB
    refine pure_ (i := 8) (N := some 49) (v := ?_) (a' := ?_) #[true, true, true, true, true, true, true, true, true, false, false] rfl rfl (by kernel_rfl) (fun _ _ _ h => h) (Or.inl ⟨by rfl, ?_⟩) ?_ ?_
    rotate_left
    · intro w'
      go_simp
      with_reducible rfl
    rotate_left
    · exact putB
    refine take_ (i := 9) (N := some 50) (v := ?_) (a' := ?_) #[true, true, true, true, true, true, true, true, true, true, false] rfl rfl (by kernel_rfl) (fun _ _ _ h => h) (Or.inl ⟨by rfl, ?_⟩) hHeld ?_ ?_
    rotate_left
    · rintro w' ⟨s0, s1, s2, s3⟩
      refine mem_load (t := 55) (x := .tmp 49) (ad := ad1.add (i * 25)) (cs := stC x) ?_ ?_ s3 Try.underlying55 rfl (by kernel_rfl) <;> rfl
    rotate_left
    · exact putB
    refine pure_ (i := 10) (N := some 51) (v := ?_) (a' := ?_) #[true, true, true, true, true, true, true, true, true, true, true] rfl rfl (by kernel_rfl) (fun _ _ _ h => h) (Or.inl ⟨by rfl, ?_⟩) ?_ ?_
    rotate_left
    · intro w'
      refine exec_neq55 (x := .tmp 45) (y := .tmp 50) (s := x) (r := 55) ?_ ?_ ?_ <;> rfl
    rotate_left
    · exact putB
    refine done_ (by kernel_rfl) ?_
    go_wp2
    have hli_ := HLI.out
    have hmx_ := HMX.out
    go_roundg (l.length - (i + 1))
    case measure => omega
    case rel => exact ⟨i + 1, by omega, by omega, by have hw_ : wrap64 ((i : Int) + 1) = ((i + 1 : Nat) : Int) := (w64i (by omega) (by omega)).trans (by omega); first | rw [hw_] | (simp only [i64_w, hw_]), ⟨below_step BW.out HB.out⟩⟩
  · have hltz : ¬ (i : Int) < (l.length : Int) := by omega
    obtain rfl : i = l.length := by omega
    go_wp2
    go_ret
    exact ⟨rfl, HB2.out.trans (Below.mono BW.out HB2.out.size)⟩
end Go.Proofs.Ytggjdcijplgpdaa.H
end
