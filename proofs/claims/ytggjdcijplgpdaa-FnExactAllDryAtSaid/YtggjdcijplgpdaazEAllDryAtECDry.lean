import Derived.Test.YtggjdcijplgpdaazEAllDryAtD0
import Derived.Test.YtggjdcijplgpdaazEAllDryAtD12
import Derived.Test.YtggjdcijplgpdaazEAllDryAtD13
import Derived.Test.YtggjdcijplgpdaazEAllDryAtEAreWithin
import Derived.Test.YtggjdcijplgpdaazEAllDryAtECHang
import Derived.Test.YtggjdcijplgpdaazEAllDryAtECLem
import Derived.Test.YtggjdcijplgpdaazEAllDryAtECWet
import Derived.Test.YtggjdcijplgpdaazEAllDryAtECompactC
import Derived.Test.YtggjdcijplgpdaazEAllDryAtEDay3
import Derived.Test.YtggjdcijplgpdaazEAllDryAtEDay7
import Derived.Test.YtggjdcijplgpdaazEAllDryAtEDayCode
import Derived.Test.YtggjdcijplgpdaazEAllDryAtEEvLoop
import Derived.Test.YtggjdcijplgpdaazEAllDryAtEIota
import Derived.Test.YtggjdcijplgpdaazEAllDryAtEIsOrder
namespace Go.Proofs.Ytggjdcijplgpdaa.D
open Go.RowKit Go.Proofs.YtggjdcijplgpdaaW.PrintWords Go.Proofs.YtggjdcijplgpdaaW.PrintLast Go.Proofs.YtggjdcijplgpdaaW.PrintMore
attribute [local go_sem] max2_int min2_int max_two min_two max_three min_three max_four min_four
set_option linter.unusedVariables false
set_option linter.unusedSimpArgs false
def idxFrom (x : Int) : List Int → Nat → Int
  | [], _ => -1
  | y :: r, n => if x = y then (n : Int) else idxFrom x r (n + 1)
theorem idxFrom_sign (x : Int) : ∀ (l : List Int) (n : Nat), decide (idxFrom x l n ≥ 0) = l.contains x
  | [], _ => rfl
  | y :: r, n => by
    rw [idxFrom, List.contains_cons]
    by_cases q : x = y
    · rw [if_pos q, q]
      simp
    · rw [if_neg q, idxFrom_sign x r (n + 1), beq_eq_false_iff_ne.mpr q, Bool.false_or]
theorem index_ev (l : List Int) (x : Int) (hm : l.length ≤ 4611686018427387904) : Ev (fun k => slices_Index_int64_int64.f k l x) (idxFrom x l 0) := by
  refine Ev.loop (L := fun k s => slices_Index_int64_int64.l0 k l x (l.length : Int) s) (fun s d => ∃ i : Nat, i + d = l.length ∧ s = (i : Int) ∧ idxFrom x (l.drop i) i = idxFrom x l 0) ?_ l.length 0 ⟨0, by omega, rfl, rfl⟩
  rintro s d ⟨i, hd, rfl, hf⟩
  by_cases c : i < l.length
  · have e : l.drop i = l[i] :: l.drop (i + 1) := List.drop_eq_getElem_cons c
    rw [e, idxFrom] at hf
    by_cases q : x = l[i]
    · rw [if_pos q] at hf
      refine .inl ⟨0, fun k _ => ?_⟩
      rw [slices_Index_int64_int64.l0]
      rw [if_pos (by omega), if_pos (by omega), if_pos (by omega), rd_of_lt l i c, if_pos q, ← hf]
    · rw [if_neg q] at hf
      refine .inr ⟨((i + 1 : Nat) : Int), d - 1, by omega, ⟨i + 1, by omega, rfl, hf⟩, 0, fun k _ => ?_⟩
      rw [slices_Index_int64_int64.l0]
      rw [if_pos (by omega), if_pos (by omega), if_pos (by omega), rd_of_lt l i c, if_neg q, w64 _ (by omega) (by omega)]
      rfl
  · obtain rfl : i = l.length := by omega
    refine .inl ⟨0, fun k _ => ?_⟩
    rw [slices_Index_int64_int64.l0]
    rw [if_neg (by omega), ← hf, List.drop_length]
    rfl
theorem contains_ev (l : List Int) (x : Int) (hm : l.length ≤ 4611686018427387904) : Ev (fun k => slices_Contains_int64_int64.f k l x) (l.contains x) :=
  Ev.bind (index_ev l x hm) (Ev.const (by rw [idxFrom_sign]))
theorem compact_len (l : List Int) (hs : l.Pairwise (fun a b => a ≤ b)) : (Lib.compact l).length = l.length ↔ l.Nodup := by
  have at_ : ∀ j, (h : j < l.length) → l.toArray[j]! = l[j] := by
    intro j h
    simp [h]
  constructor
  · intro h
    unfold Lib.compact Lib.compactUpTo at h
    rw [List.length_map] at h
    have h2 := List.length_filter_eq_length_iff.mp (h.trans (List.length_range (n := l.length)).symm)
    refine List.pairwise_iff_getElem.mpr fun i j hi hj hij e => ?_
    have k := h2 j (List.mem_range.mpr hj)
    unfold Lib.keeps at k
    have k := of_decide_eq_true k
    rw [at_ j hj, at_ (j - 1) (by omega)] at k
    have u := List.pairwise_iff_getElem.mp hs
    have a1 := u (j - 1) j (by omega) hj (by omega)
    have a2 : l[i] ≤ l[j - 1]'(by omega) := by
      by_cases c : i = j - 1
      · subst c
        exact Int.le_refl _
      · exact u i (j - 1) hi (by omega) (by omega)
    rcases k with k | k
    · omega
    · exact k (by omega)
  · intro h
    rw [Lib.compact_all]
    intro j hj
    unfold Lib.keeps
    refine decide_eq_true ?_
    by_cases c : j = 0
    · exact .inl c
    · refine .inr ?_
      rw [at_ j hj, at_ (j - 1) (by omega)]
      intro e
      exact (List.pairwise_iff_getElem.mp h) (j - 1) j (by omega) hj (by omega) e.symm
theorem compact_srt (o : List Int) : (((Lib.compact (srt o)).length : Int) == (o.length : Int)) = decide o.Nodup := by
  have h := compact_len (srt o) (srt_up o)
  rw [srt_len, (srt_perm o).nodup_iff] at h
  by_cases c : o.Nodup
  · rw [decide_eq_true c, h.mpr c]
    simp
  · rw [decide_eq_false c]
    refine beq_eq_false_iff_ne.mpr fun e => c (h.mp ?_)
    omega
def wAt (D : List S74) (L : List S128) (o : List Int) (f : Nat) (i n : Nat) : Int := wetN D (rd_T128 L (i : Int)).f1 (!(o.contains (i : Int))) f (rd_T128 L (i : Int)).f0 n
def sumTo (D : List S74) (L : List S128) (o : List Int) (f n : Nat) : Nat → Int
  | 0 => 0
  | i + 1 => sumTo D L o f n i + wAt D L o f i n
def allTo (D : List S74) (L : List S128) (o : List Int) (f n : Nat) : Nat → Bool
  | 0 => true
  | i + 1 => allTo D L o f n i && (wAt D L o f i n == 0)
theorem wAt_bd {D : List S74} {L : List S128} (hD : GoodD D) (hL : ∀ x ∈ L, GoodW x) (o : List Int) (f i n : Nat) (hi : i < L.length) (hn : f + n ≤ 24) : 0 ≤ wAt D L o f i n ∧ wAt D L o f i n ≤ 1000 := by
  have g := wash_at hL (i : Int) (by omega) (by omega)
  exact wetN_bd hD _ g.2.2.1 _ f _ g.2.1 n hn
theorem sumTo_bd {D : List S74} {L : List S128} (hD : GoodD D) (hL : ∀ x ∈ L, GoodW x) (o : List Int) (f n : Nat) (hn : f + n ≤ 24) : ∀ i, i ≤ L.length → 0 ≤ sumTo D L o f n i ∧ sumTo D L o f n i ≤ 1000 * (i : Int)
  | 0, _ => by rw [sumTo]; omega
  | i + 1, h => by
    have a := sumTo_bd hD hL o f n hn i (by omega)
    have b := wAt_bd hD hL o f i n (by omega) hn
    rw [sumTo]
    omega
theorem sumTo_all {D : List S74} {L : List S128} (hD : GoodD D) (hL : ∀ x ∈ L, GoodW x) (o : List Int) (f n : Nat) (hn : f + n ≤ 24) : ∀ i, i ≤ L.length → decide (sumTo D L o f n i = 0) = allTo D L o f n i
  | 0, _ => rfl
  | i + 1, h => by
    have e := sumTo_all hD hL o f n hn i (by omega)
    have a := sumTo_bd hD hL o f n hn i (by omega)
    have b := wAt_bd hD hL o f i n (by omega) hn
    rw [sumTo, allTo, ← e]
    by_cases c : sumTo D L o f n i = 0
    · by_cases q : wAt D L o f i n = 0
      · rw [decide_eq_true (by omega), decide_eq_true c, q]
        rfl
      · rw [decide_eq_false (by omega), decide_eq_true c, beq_eq_false_iff_ne.mpr q]
        rfl
    · rw [decide_eq_false (by omega), decide_eq_false c, Bool.false_and]
def dryRes (p : Nat → Bool) (f : Nat) : Nat → Nat → Int × Int
  | 0, _ => (0, 6)
  | d + 1, n => if p n = true then (((f + n : Nat) : Int), 0) else dryRes p f d (n + 1)
theorem idx_dry (s : Nat → Int) (p : Nat → Bool) (f : Nat) (hp : ∀ n, f + n ≤ 24 → p n = decide (s n = 0)) : ∀ d n : Nat, f + n + d = 25 →
    (idxFrom 0 ((List.range' n d).map s) n < 0 → dryRes p f d n = (0, 6)) ∧ (¬ idxFrom 0 ((List.range' n d).map s) n < 0 → (dryRes p f d n = ((f : Int) + idxFrom 0 ((List.range' n d).map s) n, 0) ∧ idxFrom 0 ((List.range' n d).map s) n ≤ 25))
  | 0, n, _ => ⟨fun _ => rfl, fun h => absurd (show (-1 : Int) < 0 by decide) h⟩
  | d + 1, n, hd => by
    obtain ⟨i1, i2⟩ := idx_dry s p f hp d (n + 1) (by omega)
    have hn := hp n (by omega)
    rw [List.range'_succ, List.map_cons, idxFrom, dryRes, hn]
    by_cases c : s n = 0
    · rw [if_pos c.symm, decide_eq_true c, if_pos rfl]
      exact ⟨fun h => absurd h (by omega), fun _ => ⟨by rw [Prod.mk.injEq]; exact ⟨by omega, rfl⟩, by omega⟩⟩
    · rw [if_neg (fun h => c h.symm), decide_eq_false c, if_neg (by decide)]
      exact ⟨i1, i2⟩
def dryR (D : List S74) (L : List S128) (o : List Int) (f : Nat) : Int × Int := dryRes (fun n => allTo D L o f n L.length) f (25 - f) 0
set_option maxHeartbeats 1000000 in
theorem spec_loops {D : List S74} {L : List S128} {o : List Int} {f : Nat} (hD : GoodD D) (hL : ∀ x ∈ L, GoodW x) (h6 : L.length ≤ 6) (ho : o.length ≤ 1048576) (hf : f ≤ 24) :
    Ev (fun k => spec_AllDryAt.l1 k L (f : Int) o D (f : Int)) (dryR D L o f) := by
  have key : ∀ d n : Nat, f + n + d = 25 → Ev (fun k => spec_AllDryAt.l1 k L (f : Int) o D ((f + n : Nat) : Int)) (dryRes (fun n => allTo D L o f n L.length) f d n) := by
    intro d
    induction d with
    | zero =>
      intro n hn
      show Ev _ ((0 : Int), (6 : Int))
      refine Ev.step (fun k => by rw [spec_AllDryAt.l1]) ?_
      exact Ev.ite_f (by omega) (Ev.const rfl)
    | succ d ih =>
      intro n hn
      have nx := ih (n + 1) (by omega)
      have wn : wrap64 (((f + n : Nat) : Int) + 1) = ((f + (n + 1) : Nat) : Int) := by rw [w64 _ (by omega) (by omega)]; omega
      refine Ev.step (fun k => by rw [spec_AllDryAt.l1]) (Ev.ite_t (by omega) ?_)
      have inner : ∀ e i : Nat, i + e = L.length → Ev (fun k => spec_AllDryAt.l2 k L (f : Int) o D ((f + n : Nat) : Int) (allTo D L o f n i) (i : Int)) (dryRes (fun n => allTo D L o f n L.length) f (d + 1) n) := by
        intro e
        induction e with
        | zero =>
          intro i hi
          obtain rfl : i = L.length := by omega
          refine Ev.step (fun k => by rw [spec_AllDryAt.l2]) (Ev.ite_f (by omega) ?_)
          rw [dryRes, wn]
          by_cases c : allTo D L o f n L.length = true
          · rw [if_pos c]
            exact Ev.ite_t c (Ev.const rfl)
          · rw [if_neg c]
            exact Ev.ite_f c nx
        | succ e ih2 =>
          intro i hi
          have n2 := ih2 (i + 1) (by omega)
          have wi : wrap64 ((i : Int) + 1) = ((i + 1 : Nat) : Int) := by rw [w64 _ (by omega) (by omega)]; rfl
          have gx := wash_at hL (i : Int) (by omega) (by omega)
          have bh := behind_ev hD gx (!(o.contains (i : Int))) f (f + n) (by omega) (by omega)
          rw [Nat.add_sub_cancel_left] at bh
          refine Ev.step (fun k => by rw [spec_AllDryAt.l2]) (Ev.ite_t (by omega) ?_)
          rw [wi]
          rw [allTo] at n2
          by_cases c : allTo D L o f n i = true
          · rw [c, Bool.true_and] at n2
            exact Ev.ite_t c (Ev.ite_t (by omega) (Ev.bind (has_ev o (i : Int) (by omega)) (Ev.bind bh n2)))
          · rw [Bool.eq_false_iff.mpr c, Bool.false_and] at n2
            exact Ev.ite_f c n2
      exact inner L.length 0 (by omega)
  exact key (25 - f) 0 (by omega)
def rowAt (D : List S74) (L : List S128) (o : List Int) (f i q n : Nat) : Int := if n < q then sumTo D L o f n (i + 1) else sumTo D L o f n i
theorem row_set (D : List S74) (L : List S128) (o : List Int) (f i q m : Nat) (hq : q < m) : ((List.range m).map (rowAt D L o f i q)).set q (sumTo D L o f q (i + 1)) = (List.range m).map (rowAt D L o f i (q + 1)) := by
  refine List.ext_getElem (by simp) fun j h1 h2 => ?_
  simp only [List.getElem_set, List.getElem_map, List.getElem_range]
  unfold rowAt
  by_cases c : q = j
  · subst c
    rw [if_pos rfl, if_pos (by omega)]
  · rw [if_neg c]
    by_cases b : j < q
    · rw [if_pos b, if_pos (by omega)]
    · rw [if_neg b, if_neg (by omega)]
theorem row_at (D : List S74) (L : List S128) (o : List Int) (f i q m : Nat) (hq : q < m) : rd ((List.range m).map (rowAt D L o f i q)) (q : Int) = sumTo D L o f q i := by
  rw [rd_of_lt _ q (by rw [List.length_map, List.length_range]; exact hq)]
  simp only [List.getElem_map, List.getElem_range]
  unfold rowAt
  rw [if_neg (Nat.lt_irrefl q)]
theorem sum_w {D : List S74} {L : List S128} (hD : GoodD D) (hL : ∀ x ∈ L, GoodW x) (o : List Int) (f q i : Nat) (h6 : L.length ≤ 6) (hn : f + q ≤ 24) (hi : i < L.length) : wrap64 (sumTo D L o f q i + wAt D L o f i q) = sumTo D L o f q (i + 1) := by
  have s1 := sumTo_bd hD hL o f q hn i (by omega)
  have s2 := wAt_bd hD hL o f i q hi hn
  rw [sumTo]
  generalize sumTo D L o f q i = a at s1 ⊢
  generalize wAt D L o f i q = b at s2 ⊢
  exact w64 _ (by omega) (by omega)
theorem nat_w (i : Nat) (h : i ≤ 1048576) : wrap64 ((i : Int) + 1) = ((i + 1 : Nat) : Int) := by rw [w64 _ (by omega) (by omega)]; rfl
theorem row_len (D : List S74) (L : List S128) (o : List Int) (f i q m : Nat) : ((List.range m).map (rowAt D L o f i q)).length = m := by rw [List.length_map, List.length_range]
theorem row_end (D : List S74) (L : List S128) (o : List Int) (f i m : Nat) : (List.range m).map (rowAt D L o f i m) = (List.range m).map fun n => sumTo D L o f n (i + 1) := by
  refine List.map_congr_left fun n hn => ?_
  unfold rowAt
  rw [if_pos (List.mem_range.mp hn)]
theorem row_start (D : List S74) (L : List S128) (o : List Int) (f i m : Nat) : ((List.range m).map fun n => sumTo D L o f n i) = (List.range m).map (rowAt D L o f i 0) := by
  refine List.map_congr_left fun n _ => ?_
  unfold rowAt
  rw [if_neg (Nat.not_lt_zero _)]
theorem row_zero (D : List S74) (L : List S128) (o : List Int) (f m : Nat) : ((List.range m).map fun n => sumTo D L o f n 0) = List.replicate m 0 := by
  refine List.ext_getElem (by rw [List.length_map, List.length_range, List.length_replicate]) fun j h1 h2 => ?_
  rw [List.getElem_map, List.getElem_replicate]
  rfl
theorem impl_inner {D : List S74} {L : List S128} {o : List Int} {f : Nat} (hD : GoodD D) (hL : ∀ x ∈ L, GoodW x) (h6 : L.length ≤ 6) (m : Nat) (hf : f + m = 25) (i : Nat) (hi : i < L.length) (C : List Int) (cl : C.length = m) (ca : ∀ q, q < m → rd C (q : Int) = wAt D L o f i q) (r : Int × Int)
    (nx : Ev (fun k => impl_AllDryAt.l0 k (f : Int) o D ((List.range m).map fun n => sumTo D L o f n (i + 1)) L (L.length : Int) ((i + 1 : Nat) : Int)) r) :
    ∀ e q : Nat, q + e = m → Ev (fun k => impl_AllDryAt.l1 k (f : Int) o D ((List.range m).map (rowAt D L o f i q)) L (L.length : Int) (i : Int) C (C.length : Int) (q : Int)) r := by
  intro e
  induction e with
  | zero =>
    intro q hq
    obtain rfl : q = m := hq
    refine Ev.step (fun k => by rw [impl_AllDryAt.l1]) ?_
    refine Ev.ite_f (by omega) ?_
    rw [row_end, nat_w i (by omega)]
    exact nx
  | succ e ih2 =>
    intro q hq
    have n2 := ih2 (q + 1) (by omega)
    have hqm : q < m := by omega
    have hfq : f + q ≤ 24 := by omega
    have c1 : (q : Int) < (C.length : Int) := by omega
    have c2 : (0 : Int) ≤ (q : Int) := by omega
    have c3 : (q : Int) < (((List.range m).map (rowAt D L o f i q)).length : Int) := by rw [row_len]; omega
    have hq2 : q ≤ 1048576 := by omega
    clear hq
    refine Ev.step (fun k => by rw [impl_AllDryAt.l1]) ?_
    refine Ev.ite_t c1 (Ev.ite_t c2 (Ev.ite_t c1 (Ev.ite_t c3 ?_)))
    rw [row_at D L o f i q m hqm, ca q hqm, sum_w hD hL o f q i h6 hfq hi, nat_w q hq2, Int.toNat_natCast, row_set D L o f i q m hqm]
    exact n2
theorem impl_end {D : List S74} {L : List S128} {o : List Int} {f : Nat} (hD : GoodD D) (hL : ∀ x ∈ L, GoodW x) (m : Nat) (hf : f + m = 25) :
    Ev (fun k => (slices_Index_int64_int64.f k ((List.range m).map fun n => sumTo D L o f n L.length) 0).bind fun t204 => (if t204 < 0 then (some (0, 6)) else (some (wrap64 ((f : Int) + t204), 0)))) (dryRes (fun n => allTo D L o f n L.length) f m 0) := by
  refine Ev.bind (index_ev _ 0 (by rw [List.length_map, List.length_range]; omega)) ?_
  obtain ⟨a, b⟩ := idx_dry (fun n => sumTo D L o f n L.length) (fun n => allTo D L o f n L.length) f (fun n hn => (sumTo_all hD hL o f n hn L.length (Nat.le_refl _)).symm) m 0 hf
  rw [List.range_eq_range']
  have pos : -1 ≤ idxFrom 0 ((List.range' 0 m).map fun n => sumTo D L o f n L.length) 0 := by
    generalize (List.range' 0 m).map (fun n => sumTo D L o f n L.length) = l
    generalize (0 : Nat) = n
    induction l generalizing n with
    | nil => exact Int.le_refl _
    | cons y r ih =>
      rw [idxFrom]
      split
      · omega
      · exact ih (n + 1)
  generalize idxFrom 0 ((List.range' 0 m).map fun n => sumTo D L o f n L.length) 0 = x at a b pos ⊢
  by_cases c : x < 0
  · rw [a c]
    exact Ev.ite_t c (Ev.const rfl)
  · obtain ⟨b1, b2⟩ := b c
    rw [b1]
    refine Ev.ite_f c (Ev.const ?_)
    rw [w64 _ (by omega) (by omega)]
theorem impl_loops {D : List S74} {L : List S128} {o : List Int} {f : Nat} (hD : GoodD D) (hL : ∀ x ∈ L, GoodW x) (h6 : L.length ≤ 6) (ho : o.length ≤ 1048576) (m : Nat) (hf : f + m = 25) (hm : 1 ≤ m) :
    Ev (fun k => impl_AllDryAt.l0 k (f : Int) o D (List.replicate m 0) L (L.length : Int) 0) (dryRes (fun n => allTo D L o f n L.length) f m 0) := by
  have key : ∀ d i : Nat, i + d = L.length → Ev (fun k => impl_AllDryAt.l0 k (f : Int) o D ((List.range m).map fun n => sumTo D L o f n i) L (L.length : Int) (i : Int)) (dryRes (fun n => allTo D L o f n L.length) f m 0) := by
    intro d
    induction d with
    | zero =>
      intro i hi
      obtain rfl : i = L.length := hi
      refine Ev.step (fun k => by rw [impl_AllDryAt.l0]) ?_
      exact Ev.ite_f (Int.lt_irrefl _) (impl_end hD hL m hf)
    | succ d ih =>
      intro i hi
      have nx := ih (i + 1) (by omega)
      have hi2 : i < L.length := by omega
      have c1 : (i : Int) < (L.length : Int) := by omega
      have c2 : (0 : Int) ≤ (i : Int) := by omega
      have gx := wash_at hL (i : Int) c2 c1
      have cv := course_ev hD gx (!(o.contains (i : Int))) f (by omega)
      have cl := courseL_len D (rd_T128 L (i : Int)).f1 (!(o.contains (i : Int))) f (rd_T128 L (i : Int)).f0 (24 - f)
      have ca := courseL_at D (rd_T128 L (i : Int)).f1 (!(o.contains (i : Int))) f (rd_T128 L (i : Int)).f0 (24 - f)
      generalize courseL D (rd_T128 L (i : Int)).f1 (!(o.contains (i : Int))) f (rd_T128 L (i : Int)).f0 (24 - f) = C at cv cl ca
      refine Ev.step (fun k => by rw [impl_AllDryAt.l0]) ?_
      refine Ev.ite_t c1 (Ev.ite_t c2 (Ev.ite_t c1 (Ev.bind (contains_ev o (i : Int) (by omega)) (Ev.bind cv ?_))))
      rw [row_start]
      exact impl_inner hD hL h6 m hf i hi2 C (by omega) (fun q hq => ca q (by omega)) _ nx m 0 (Nat.zero_add _)
  have h0 := key L.length 0 (Nat.zero_add _)
  rw [row_zero] at h0
  exact h0
def rightO (L : List S128) (o : List Int) : Bool := (!(o.any fun n => !inB 0 ((L.length : Int) - 1) n)) && decide o.Nodup
def codeDry (D : List S74) (L : List S128) (o : List Int) (f : Int) : Int := if codeDay D L f 24 = 0 then (if rightO L o = true then (if L.length ≤ 6 then 0 else 3) else 2) else codeDay D L f 24
def dryAll (D : List S74) (L : List S128) (o : List Int) (f : Int) : Int × Int := if codeDry D L o f = 0 then dryR D L o f.toNat else (0, codeDry D L o f)
theorem dry_zero {D : List S74} {L : List S128} {o : List Int} {f : Int} (h : codeDry D L o f = 0) : codeDay D L f 24 = 0 ∧ L.length ≤ 6 ∧ rightO L o = true := by
  unfold codeDry at h
  by_cases c : codeDay D L f 24 = 0
  · rw [if_pos c] at h
    by_cases q : rightO L o = true
    · rw [if_pos q] at h
      by_cases b : L.length ≤ 6
      · exact ⟨c, b, q⟩
      · rw [if_neg b] at h; cases h
    · rw [if_neg q] at h; cases h
  · rw [if_neg c] at h
    exact absurd h c
theorem asked_two (D : List S74) (L : List S128) (f : Int) (r : Bool) : codeAsked D L (inB 0 24 f && r) = if codeDay D L f 24 = 0 then (if r = true then 0 else 2) else codeDay D L f 24 := by
  unfold codeAsked codeDay
  rw [if_pos (show (24 : Int) ≤ 24 by decide)]
  by_cases p : D.any (fun x => !okHour x) = true
  · rw [if_pos p, if_pos p]
    rfl
  · rw [if_neg p, if_neg p]
    by_cases q : L.any (fun x => !okWash x) = true
    · rw [if_pos q, if_pos q]
      rfl
    · rw [if_neg q, if_neg q]
      cases inB 0 24 f <;> cases r <;> rfl
theorem rightO_iff (L : List S128) (o : List Int) : rightO L o = true ↔ ∀ j : Nat, (h : j < o.length) → inB 0 ((L.length : Int) - 1) o[j] = true ∧ o[j] ∉ o.take j := by
  unfold rightO
  rw [Bool.and_eq_true, decide_eq_true_iff]
  constructor
  · rintro ⟨a, b⟩ j h
    constructor
    · cases e : inB 0 ((L.length : Int) - 1) o[j] with
      | true => rfl
      | false =>
        have : o.any (fun n => !inB 0 ((L.length : Int) - 1) n) = true := List.any_eq_true.mpr ⟨o[j], List.getElem_mem h, by rw [e]; rfl⟩
        rw [this] at a
        cases a
    · intro m
      obtain ⟨i, hi, e⟩ := List.mem_take_iff_getElem.mp m
      exact (List.pairwise_iff_getElem.mp b) i j (by omega) h (by omega) e
  · intro a
    constructor
    · cases e : o.any (fun n => !inB 0 ((L.length : Int) - 1) n) with
      | false => rfl
      | true =>
        obtain ⟨x, hx, hn⟩ := List.any_eq_true.mp e
        obtain ⟨j, hj, rfl⟩ := List.getElem_of_mem hx
        rw [(a j hj).1] at hn
        cases hn
    · refine List.pairwise_iff_getElem.mpr fun i j hi hj hij e => ?_
      exact (a j hj).2 (List.mem_take_iff_getElem.mpr ⟨i, by omega, e⟩)
set_option maxHeartbeats 1000000 in
theorem AllDryAt_both (D : List S74) (hl : D.length = 24) (hD : TypedD D) (L : List S128) (hm : L.length ≤ 4611686018427387904) (hL : TypedW L) (o : List Int) (ho : o.length ≤ 1048576) (f : Int) :
    Ev (fun k => spec_AllDryAt.f k D L f o) (dryAll D L o f) ∧ Ev (fun k => impl_AllDryAt.f k D L f o) (dryAll D L o f) := by
  have ha := asked_ev D hl L hm (inB 0 24 f && rightO L o)
  rw [asked_two] at ha
  have wl : wrap64 ((L.length : Int) - 1) = (L.length : Int) - 1 := w64 _ (by omega) (by omega)
  have loops : codeDry D L o f = 0 → Ev (fun k => spec_AllDryAt.l1 k L f o D f) (dryR D L o f.toNat) ∧ Ev (fun k => impl_AllDryAt.l0 k f o D (List.replicate (25 - f.toNat) 0) L (L.length : Int) 0) (dryR D L o f.toNat) ∧ 0 ≤ f ∧ f ≤ 24 := by
    intro h
    obtain ⟨h1, h2, h3⟩ := dry_zero h
    obtain ⟨gD, gL, f0, f1, _⟩ := code_zero hl hD hL h1
    have a := spec_loops (o := o) (f := f.toNat) gD gL h2 ho (by omega)
    have b := impl_loops (o := o) (f := f.toNat) gD gL h2 ho (25 - f.toNat) (by omega) (by omega)
    rw [show ((f.toNat : Nat) : Int) = f by omega] at a b
    exact ⟨a, b, f0, f1⟩
  constructor
  · -- the reference
    have j2 : ∀ c, c ≠ 0 → Ev (fun k => spec_AllDryAt.j2 k L f o D c) (0, c) := fun c hc => Ev.step (fun k => by rw [spec_AllDryAt.j2]) (Ev.ite_f hc (Ev.const rfl))
    have j1 : ∀ c, c ≠ 0 → Ev (fun k => spec_AllDryAt.j1 k L f o D c false) (0, c) := fun c hc => Ev.step (fun k => by rw [spec_AllDryAt.j1]) (Ev.ite_f (by decide) (j2 c hc))
    have tail : Ev (fun k => spec_AllDryAt.l0 k L f o D (inB 0 24 f && rightO L o) (o.length : Int)) (dryAll D L o f) := by
      refine Ev.step (fun k => by rw [spec_AllDryAt.l0]) ?_
      refine Ev.ite_f (by omega) ?_
      by_cases c : codeDay D L f 24 = 0
      · rw [if_pos c] at ha
        by_cases q : rightO L o = true
        · rw [if_pos q] at ha
          refine Ev.bind ha (Ev.ite_t rfl ?_)
          by_cases b : L.length ≤ 6
          · have z : codeDry D L o f = 0 := by unfold codeDry; rw [if_pos c, if_pos q, if_pos b]
            unfold dryAll
            rw [if_pos z, decide_eq_false (by omega)]
            refine Ev.step (fun k => by rw [spec_AllDryAt.j1]) ?_
            refine Ev.ite_f (by decide) ?_
            refine Ev.step (fun k => by rw [spec_AllDryAt.j2]) ?_
            exact Ev.ite_t rfl (loops z).1
          · have z : codeDry D L o f = 3 := by unfold codeDry; rw [if_pos c, if_pos q, if_neg b]
            unfold dryAll
            rw [z, if_neg (show ¬ ((3 : Int) = 0) by decide), decide_eq_true (by omega)]
            refine Ev.step (fun k => by rw [spec_AllDryAt.j1]) ?_
            exact Ev.ite_t rfl (j2 3 (by decide))
        · rw [if_neg q] at ha
          have z : codeDry D L o f = 2 := by unfold codeDry; rw [if_pos c, if_neg q]
          unfold dryAll
          rw [z, if_neg (show ¬ ((2 : Int) = 0) by decide)]
          exact Ev.bind ha (Ev.ite_f (by decide) (j1 2 (by decide)))
      · rw [if_neg c] at ha
        have z : codeDry D L o f = codeDay D L f 24 := by unfold codeDry; rw [if_neg c]
        unfold dryAll
        rw [z, if_neg c]
        exact Ev.bind ha (Ev.ite_f c (j1 _ c))
    have key : ∀ d i : Nat, ∀ b : Bool, i + d = o.length → (b = true ↔ inB 0 24 f = true ∧ ∀ j : Nat, (h : j < o.length) → j < i → inB 0 ((L.length : Int) - 1) o[j] = true ∧ o[j] ∉ o.take j) → Ev (fun k => spec_AllDryAt.l0 k L f o D b (i : Int)) (dryAll D L o f) := by
      intro d
      induction d with
      | zero =>
        intro i b hi hb
        obtain rfl : i = o.length := by omega
        have : b = (inB 0 24 f && rightO L o) := by
          refine Bool.eq_iff_iff.mpr ?_
          rw [hb, Bool.and_eq_true, rightO_iff]
          exact ⟨fun ⟨x, y⟩ => ⟨x, fun j h => y j h h⟩, fun ⟨x, y⟩ => ⟨x, fun j h _ => y j h⟩⟩
        rw [this]
        exact tail
      | succ d ih =>
        intro i b hi hb
        have wi : wrap64 ((i : Int) + 1) = ((i + 1 : Nat) : Int) := by rw [w64 _ (by omega) (by omega)]; rfl
        have hi2 : i < o.length := by omega
        refine Ev.step (fun k => by rw [spec_AllDryAt.l0]) (Ev.ite_t (by omega) ?_)
        rw [wi]
        have bad : (¬ (inB 0 ((L.length : Int) - 1) o[i] = true ∧ o[i] ∉ o.take i) ∨ b = false) → Ev (fun k => spec_AllDryAt.l0 k L f o D false ((i + 1 : Nat) : Int)) (dryAll D L o f) := by
          intro h
          refine ih (i + 1) false (by omega) ⟨fun h => absurd h (by decide), fun ⟨x, y⟩ => ?_⟩
          rcases h with h | h
          · exact absurd (y i hi2 (by omega)) h
          · rw [h] at hb
            exact hb.mpr ⟨x, fun j h1 h2 => y j h1 (by omega)⟩
        cases b with
        | false => exact Ev.ite_f (by decide) (bad (.inr rfl))
        | true =>
          have hb := hb.mp rfl
          have hin := same_in o[i] 0 ((L.length : Int) - 1)
          refine Ev.ite_t rfl (Ev.ite_t (by omega) ?_)
          rw [wl, rd_of_lt o i hi2, hin]
          refine Ev.bind (Ev.const rfl) ?_
          show Ev (fun k => if inB 0 ((L.length : Int) - 1) o[i] = true then _ else _) _
          by_cases q : inB 0 ((L.length : Int) - 1) o[i] = true
          · refine Ev.ite_t q (Ev.ite_t (by omega) (Ev.bind (has_ev _ _ (by rw [List.length_take]; omega)) ?_))
            rw [Int.toNat_natCast]
            by_cases p : o[i] ∈ o.take i
            · rw [List.contains_iff_mem.mpr p]
              exact bad (.inl fun h => h.2 p)
            · have : (o.take i).contains o[i] = false := by
                cases h : (o.take i).contains o[i] with
                | false => rfl
                | true => exact absurd (List.contains_iff_mem.mp h) p
              rw [this]
              refine ih (i + 1) true (by omega) ⟨fun _ => ⟨hb.1, fun j h1 h2 => ?_⟩, fun _ => rfl⟩
              by_cases e : j = i
              · subst e
                exact ⟨q, p⟩
              · exact hb.2 j h1 (by omega)
          · exact Ev.ite_f q (bad (.inl fun h => q h.1))
    have h0 := key o.length 0 (inB 0 24 f) (by omega) ⟨fun h => ⟨h, fun j _ h2 => absurd h2 (Nat.not_lt_zero _)⟩, fun h => h.1⟩
    exact Ev.bind (Ev.const (specFrom_f f)) h0
  · -- the program
    have hs : sortedList o = some (srt o) := by unfold sortedList; rw [if_pos ho]
    have hz : impl_size_impl_Wash.f L = some (L.length : Int) := rfl
    have hc : Ev (fun k => impl_dayCode.f k D L f 24) (codeDay D L f 24) := Ev.const rfl
    have hw : impl_fewHung.f L = some (if decide ((L.length : Int) ≤ 6) = true then 0 else 3) := by
      unfold impl_fewHung.f
      rw [unless_b]
      rfl
    have hfirst : firstNZ [codeDay D L f 24, if rightO L o = true then 0 else 2, if decide ((L.length : Int) ≤ 6) = true then 0 else 3] = codeDry D L o f := by
      unfold codeDry
      by_cases c : codeDay D L f 24 = 0
      · rw [if_pos c, firstNZ, if_pos c]
        by_cases q : rightO L o = true
        · rw [if_pos q, if_pos q, firstNZ, if_pos rfl]
          by_cases b : L.length ≤ 6
          · rw [if_pos b, decide_eq_true (by omega)]
            rfl
          · rw [if_neg b, decide_eq_false (by omega)]
            rfl
        · rw [if_neg q, if_neg q]
          rfl
      · rw [if_neg c, firstNZ, if_neg c]
    have tail : Ev (fun k => impl_AllDryAt.j0 k L f o D (rightO L o)) (dryAll D L o f) := by
      have hfo := firstOf_ev [codeDay D L f 24, if rightO L o = true then 0 else 2, if decide ((L.length : Int) ≤ 6) = true then 0 else 3] (by simp)
      rw [hfirst] at hfo
      refine Ev.step (fun k => by rw [impl_AllDryAt.j0]) ?_
      refine Ev.bind hc (Ev.bind (Ev.const (unless_b _ _)) (Ev.bind (Ev.const hw) (Ev.bind hfo ?_)))
      unfold dryAll
      by_cases c : codeDry D L o f = 0
      · rw [if_pos c]
        obtain ⟨_, a, f0, f1⟩ := loops c
        have w1 : wrap64 (24 - f) = 24 - f := w64 _ (by omega) (by omega)
        have w2 : wrap64 (24 - f + 1) = 24 - f + 1 := w64 _ (by omega) (by omega)
        have w3 : (24 - f + 1).toNat = 25 - f.toNat := by omega
        rw [w1, w2, w3]
        exact Ev.ite_t c (Ev.ite_t (by omega) (Ev.ite_t (by omega) a))
      · rw [if_neg c]
        exact Ev.ite_f c (Ev.const rfl)
    refine Ev.bind (Ev.const hs) (Ev.bind (Ev.const hz) ?_)
    rw [wl]
    refine Ev.bind (Ev.const (show impl_areWithin.f o 0 ((L.length : Int) - 1) = some (!(o.any fun n => !inB 0 ((L.length : Int) - 1) n)) from rfl)) ?_
    cases q : (!(o.any fun n => !inB 0 ((L.length : Int) - 1) n)) with
    | true =>
      have hk : compactLen (srt o) = some ((Lib.compact (srt o)).length : Int) := by unfold compactLen; rw [if_pos (by rw [srt_len]; exact ho)]
      refine Ev.ite_t rfl (Ev.bind (Ev.const hk) ?_)
      rw [compact_srt]
      have : rightO L o = decide o.Nodup := by unfold rightO; rw [q, Bool.true_and]
      rw [← this]
      exact tail
    | false =>
      have : rightO L o = false := by unfold rightO; rw [q, Bool.false_and]
      rw [this] at tail
      exact Ev.ite_f (by decide) tail
end Go.Proofs.Ytggjdcijplgpdaa.D
