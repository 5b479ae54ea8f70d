import Derived.Test.YtggjdcijplgpdaazFStocksECloneSt
import Derived.Test.YtggjdcijplgpdaazFStocksENeedC
import Derived.Test.YtggjdcijplgpdaazFStocksELayG
import Derived.Test.YtggjdcijplgpdaazFStocksEInH
import Derived.Test.YtggjdcijplgpdaazFStocksENum
import Derived.Test.YtggjdcijplgpdaazFStocksEDayOf
import Derived.Shelf.Abstract
section
namespace Go.Proofs.Ytggjdcijplgpdaa.H
open Go.RowKit Go.Proofs.YtggjdcijplgpdaaW.PrintWords Go.Proofs.YtggjdcijplgpdaaW.PrintLast Go.Proofs.YtggjdcijplgpdaaW.PrintMore
attribute [local go_sem] max2_int min2_int max_two min_two max_three min_three max_four min_four   -- for this text's walks alone
set_option linter.unusedVariables false
set_option linter.unusedSimpArgs false
def impl_sum.l0 : Nat → Int → List Int → Int → Int → Option (Int)
 | 0, _, _, _, _ => none
 | k + 1, x3, x6, x7, x8 => if x8 < x7 then (if 0 ≤ x8 then (if x8 < (x6.length : Int) then (impl_sum.l0 k (wrap64 (x3 + (rd x6 x8))) x6 x7 (wrap64 (x8 + 1))) else (none)) else (none)) else (some x3)
def impl_sum.f (k : Nat) (l0 : List Int) : Option (Int) := impl_sum.l0 k 0 l0 (l0.length : Int) 0
theorem impl_sum.mono_l : ∀ k, (∀ y0 y1 y2 y3, LeO (impl_sum.l0 k y0 y1 y2 y3) (impl_sum.l0 (k + 1) y0 y1 y2 y3))
 | 0 => fun _ _ _ _ r h => by simp [impl_sum.l0] at h
 | k + 1 => by
  have ih0 := impl_sum.mono_l k
  · intro y0 y1 y2 y3
    unfold impl_sum.l0
    repeat' first
    | (with_reducible exact ih0 _ _ _ _)
    | (with_reducible exact LeO.refl _)
    | (with_reducible exact LeO.none _)
    | (with_reducible refine LeO.ite ?_ ?_)
    | (with_reducible refine LeO.bind ?_ (fun _ => ?_))
    | exact ih0 _ _ _ _
    | exact LeO.none _
    | refine LeO.ite ?_ ?_
    | refine LeO.bind ?_ (fun _ => ?_)
theorem impl_sum.mono : ∀ a0 k, LeO (impl_sum.f k a0) (impl_sum.f (k + 1) a0) := by
 intro a0 k
 have ih0 := impl_sum.mono_l k
 unfold impl_sum.f
 repeat' first
  | (with_reducible exact ih0 _ _ _ _)
  | (with_reducible exact LeO.refl _)
  | (with_reducible exact LeO.none _)
  | (with_reducible refine LeO.ite ?_ ?_)
  | (with_reducible refine LeO.bind ?_ (fun _ => ?_))
  | exact ih0 _ _ _ _
  | exact LeO.none _
  | refine LeO.ite ?_ ?_
  | refine LeO.bind ?_ (fun _ => ?_)
set_option maxHeartbeats 8000000 in
set_option maxRecDepth 100000 in
theorem impl_sum.calls (k : Nat) (A0 : Option Addr) (c0 : Nat) (l0 : List Int) (r : Int) (w : World) (hr0 : Kd.C (Kd.int .i64) w A0 l0.length l0) (hc0 : l0.length ≤ c0) (h : impl_sum.f k l0 = some r) :
 Calls Try.prog 91 #[.slice A0 l0.length c0] w fun e w' => e = .returned (.int .i64 r) ∧ Drawn0 w w' := by
 have HR0 := Aside0.mk hr0
 have HC0 := Aside0.mk hc0
 clear hr0 hc0
 have H : (impl_sum.l0 k 0 l0 (l0.length : Int) 0) = some r := h
 clear h
 have H' := Aside0.mk H
 clear H
 go_enter Try.func91, Try.ntmps91
 go_wp2
 go_loopg [3, 8] k (fun kq v3 v8 w' => ∃ (x3_1 : Int) (x8_1 : Int), v3 = .int .i64 x3_1 ∧ v8 = .int .i64 x8_1 ∧ Aside0 (impl_sum.l0 kq x3_1 l0 (l0.length : Int) x8_1 = some r) ∧ Aside0 (kq ≤ k) ∧ Drawn0 w w')
 case atStart => exact ⟨(0), (0), (by first | rfl | (simp; done) | (simp [*]; done)), (by first | rfl | (simp; done) | (simp [*]; done)), H', ⟨Nat.le_refl _⟩, by repeat (first | exact Drawn0.refl _ | apply Drawn0.step)⟩
 case round =>
  clear H'
  obtain ⟨x3_1, x8_1, rfl, rfl, HA, HK1, ⟨m1, rfl⟩⟩ := hrel
  cases gk with
  | zero => exact absurd HA.out (by simp [impl_sum.l0])
  | succ k1 =>
   have H := HA.out
   clear HA
   simp only [impl_sum.l0] at H
   by_cases c2 : x8_1 < (l0.length : Int)
   · rw [if_pos c2] at H
     have c2b0 : decide (x8_1 < (l0.length : Int)) = true := decide_eq_true c2
     clear c2
     by_cases c3 : 0 ≤ x8_1
     · rw [if_pos c3] at H
       have c3b0 : decide (0 ≤ x8_1) = true := decide_eq_true c3
       clear c3
       by_cases c4 : x8_1 < (l0.length : Int)
       · rw [if_pos c4] at H
         have c4b0 : decide (x8_1 < (l0.length : Int)) = true := decide_eq_true c4
         clear c4
         have H' := Aside0.mk H
         clear H
         have p147 : 0 ≤ (x8_1 : Int) := of_decide_eq_true (by first | (with_reducible assumption) | assumption)
         have q147 : x8_1 < (l0.length : Int) := of_decide_eq_true (by first | (with_reducible assumption) | assumption)
         obtain ⟨ad147, e147, hx147_0⟩ := Kd.at_int HR0.out x8_1 p147 q147
         cases e147
         replace p147 := eq_true p147
         replace q147 := eq_true q147
         go_wp2
         go_roundg k1
         case measure => have := HK1.out; omega
         case rel => exact ⟨(wrap64 (x3_1 + (rd l0 x8_1))), (wrap64 (x8_1 + 1)), (by first | rfl | (simp; done) | (simp [*]; done)), (by first | rfl | (simp; done) | (simp [*]; done)), H', ⟨by have := HK1.out; omega⟩, by repeat (first | exact Drawn0.refl _ | apply Drawn0.step)⟩
       · rw [if_neg c4] at H
         exact absurd H (by simp)
     · rw [if_neg c3] at H
       exact absurd H (by simp)
   · rw [if_neg c2] at H
     have c2b0 : decide (x8_1 < (l0.length : Int)) = false := decide_eq_false c2
     clear c2
     obtain rfl := Option.some.inj H
     go_wp2
     go_ret
     exact ⟨by first | rfl | (simp; done) | (simp [*]; done), by repeat (first | exact Drawn0.refl _ | apply Drawn0.step)⟩
end Go.Proofs.Ytggjdcijplgpdaa.H
end
section
namespace Go.Proofs.Ytggjdcijplgpdaa.H
open Go.RowKit Go.Proofs.YtggjdcijplgpdaaW.PrintWords Go.Proofs.YtggjdcijplgpdaaW.PrintLast Go.Proofs.YtggjdcijplgpdaaW.PrintMore
attribute [local go_sem] max2_int min2_int max_two min_two max_three min_three max_four min_four
set_option linter.unusedVariables false
set_option linter.unusedSimpArgs false
def sumTo (t : List Int) : Nat → Int
 | 0 => 0
 | i + 1 => wrap64 (sumTo t i + rd t (i : Int))
theorem sumTo_ev (t : List Int) (h : t.length ≤ 4611686018427387904) : Ev (fun k => impl_sum.f k t) (sumTo t t.length) := by
 refine Ev.loop (L := fun k s => impl_sum.l0 k s.1 t (t.length : Int) s.2) (fun s d => ∃ i : Nat, i + d = t.length ∧ s = (sumTo t i, (i : Int))) ?_ t.length (0, 0) ⟨0, by omega, by rw [sumTo]; rfl⟩
 rintro ⟨a, z⟩ d ⟨i, hd, e⟩
 cases e
 by_cases c : i < t.length
 · have c1 : (i : Int) < (t.length : Int) := by omega
   have c2 : (0 : Int) ≤ (i : Int) := by omega
   refine .inr ⟨(sumTo t (i + 1), ((i + 1 : Nat) : Int)), d - 1, by omega, ⟨i + 1, by omega, rfl⟩, 0, fun k _ => ?_⟩
   dsimp only
   rw [impl_sum.l0]
   rw [if_pos c1, if_pos c2, if_pos c1, w64i (z := (i : Int) + 1) (by omega) (by omega), sumTo]
   rfl
 · obtain rfl : i = t.length := by omega
   refine .inl ⟨0, fun k _ => ?_⟩
   dsimp only
   rw [impl_sum.l0]
   rw [if_neg (by omega)]
theorem sumL_append : ∀ (a b : List Int), sumL (a ++ b) = sumL a + sumL b
 | [], b => by
  show sumL b = 0 + sumL b
  omega
 | x :: a, b => by
  show x + sumL (a ++ b) = x + sumL a + sumL b
  rw [sumL_append a b]
  omega
theorem sumTo_L (t : List Int) (h : ∀ x ∈ t, 0 ≤ x ∧ x ≤ 500) (hl : t.length ≤ 1000) : ∀ i, i ≤ t.length → sumTo t i = sumL (t.take i) ∧ 0 ≤ sumL (t.take i) ∧ sumL (t.take i) ≤ 500 * i
 | 0, _ => ⟨rfl, Int.le_refl _, Int.le_refl _⟩
 | i + 1, hi => by
  obtain ⟨h1, h2, h3⟩ := sumTo_L t h hl i (by omega)
  have c : i < t.length := by omega
  have hx := h t[i] (List.getElem_mem c)
  have e : sumL (t.take (i + 1)) = sumL (t.take i) + t[i] := by
   rw [← List.take_append_getElem c, sumL_append]
   show _ = sumL (t.take i) + t[i]
   show sumL (t.take i) + (t[i] + 0) = _
   omega
  have r : rd t (i : Int) = t[i] := by
   show t.getD i 0 = _
   rw [List.getD_eq_getElem?_getD, List.getElem?_eq_getElem c]
   rfl
  rw [sumTo, h1, r, e]
  exact ⟨w64i (by omega) (by omega), by omega, by omega⟩
def fitB (s : S55) : Bool := s.l.all (fun x => decide (0 ≤ x)) && decide (sumL s.l ≤ 500)
theorem fitB_iff (s : S55) : fitB s = true ↔ FitSt s := by
 unfold fitB
 rw [Bool.and_eq_true, List.all_eq_true, decide_eq_true_iff]
 constructor
 · rintro ⟨h1, h2⟩
   exact ⟨fun x hx => of_decide_eq_true (h1 x hx), h2⟩
 · rintro ⟨h1, h2⟩
   exact ⟨fun x hx => decide_eq_true (h1 x hx), h2⟩
def TypedSt (s : S55) : Prop := ∀ x ∈ s.l, -2147483648 ≤ x ∧ x < 2147483648
theorem typed_map {s : S55} (h : TypedSt s) : s.l.map wrap64 = s.l := by
 have : s.l.map wrap64 = s.l.map id := List.map_congr_left fun x hx => w64i (by have := h x hx; omega) (by have := h x hx; omega)
 rw [this, List.map_id]
theorem fit_of_in {s : S55} (h : (!(s.l.any fun n => !inB 0 500 n)) = false) : fitB s = false := by
 cases hb : fitB s with
 | false => rfl
 | true =>
  have hf := (fitB_iff s).mp hb
  exfalso
  rw [Bool.not_eq_false'] at h
  obtain ⟨x, hx, hq⟩ := List.any_eq_true.mp h
  obtain ⟨j, hj, rfl⟩ := List.getElem_of_mem hx
  have h0 := hf.pos _ hx
  have h1 := Int.le_trans (sumL_ge s.l j hf.pos) hf.sum
  rw [List.getD_eq_getElem?_getD, List.getElem?_eq_getElem hj] at h1
  have h1 : s.l[j] ≤ 500 := h1
  unfold inB at hq
  rw [decide_eq_true h0, decide_eq_true h1] at hq
  exact absurd hq (by decide)
theorem in_all {s : S55} (h : (!(s.l.any fun n => !inB 0 500 n)) = true) : ∀ x ∈ s.l, 0 ≤ x ∧ x ≤ 500 := by
 intro x hx
 rw [Bool.not_eq_true'] at h
 have := List.any_eq_false.mp h x hx
 unfold inB at this
 by_cases a : 0 ≤ x <;> by_cases b : x ≤ 500 <;> simp [a, b] at this <;> exact ⟨a, b⟩
theorem fit_sum {s : S55} (h : (!(s.l.any fun n => !inB 0 500 n)) = true) : fitB s = decide (sumTo s.l s.l.length ≤ 500) := by
 have hi := in_all h
 have := sumTo_L s.l hi (by show 25 ≤ 1000; decide) s.l.length (Nat.le_refl _)
 rw [this.1, List.take_length]
 unfold fitB
 rw [show s.l.all (fun x => decide (0 ≤ x)) = true from List.all_eq_true.mpr fun x hx => decide_eq_true (hi x hx).1, Bool.true_and]
theorem numbersOf_any (s : S55) (w : World) : Calls Try.prog 92 #[.agg (stC s).toArray] w fun e w' => ∃ v : Value, e = .returned v ∧ Kd.R (Kd.int .i64) 2 w' w.heap.size (fun _ => True) v (s.l.map wrap64) ∧ Below w.heap.size w w' :=
 impl_Stock_numbersOf.calls _ _ _ _ _ _ _ _ _ _ _ _ _ _ _ _ _ _ _ _ _ _ _ _ _ _ w rfl
set_option maxHeartbeats 8000000 in
set_option maxRecDepth 100000 in
theorem validStock_calls (s : S55) (ht : TypedSt s) (w : World) :
 Calls Try.prog 32 #[.agg (stC s).toArray] w fun e w' => e = .returned (.bool (fitB s)) ∧ Below w.heap.size w w' := by
 have mixed : Try.prog.follows .mixedOrders = true := by kernel_rfl
 have HN := Aside0.mk (fun (w : World) => (show Calls Try.prog 92 #[.agg (stC s).toArray] w fun e w' => ∃ v : Value, e = .returned v ∧ Kd.R (Kd.int .i64) 2 w' w.heap.size (fun _ => True) v s.l ∧ Below w.heap.size w w' by have := numbersOf_any s w; rw [typed_map ht] at this; exact this))
 obtain ⟨ks, hks⟩ := Ev.get (sumTo_ev s.l (by show 25 ≤ 4611686018427387904; decide))
 have HW := Aside0.mk (fun (w : World) (A : Option Addr) (c : Nat) (hr : Kd.C (Kd.int .i64) w A s.l.length s.l) (hc : s.l.length ≤ c) => impl_areWithin.calls A c s.l 0 500 _ w hr hc rfl)
 have HM := Aside0.mk (fun (w : World) (A : Option Addr) (c : Nat) (hr : Kd.C (Kd.int .i64) w A s.l.length s.l) (hc : s.l.length ≤ c) => impl_sum.calls ks A c s.l _ w hr hc hks)
 clear hks
 cases q : (!(s.l.any fun n => !inB 0 500 n)) with
 | false =>
  rw [q] at HW
  have HR := Aside0.mk (fit_of_in q)
  clear q HM
  go_enter Try.func32, Try.ntmps32
  go_wp2_with (first | ((with_reducible refine gate_dst (N := 1) rfl ?_); refine box_event ?hg (N := 1) ?hd (cs := (stC s).toArray) (t := 55) ?hr ?_; (case hd => rfl); (case hg => rfl); (case hr => first | (go_simp; done) | (go_simp; rfl)); intro g1 hg_ w1 hb_ hb; have K1 := Aside0.mk hb_; have HB := Aside0.mk hb; clear hb_ hb hg_) | ((with_reducible refine gate_dst (N := 4) rfl ?_); refine Kd.event_run rfl (mem_load (ad := ⟨g1, 0, none⟩) (cs := stC s) rfl rfl (block_cells K1.out) Try.underlying55 rfl (by kernel_rfl)) ?_) | (go_at_call 92; refine (HN.out _).mono ?_; rintro e w2 ⟨v2, rfl, hr, hb⟩; have n_ := Aside0.mk (below_step HB.out hb); clear HB hb; have HB := n_; clear n_; obtain ⟨A2, c2, e2⟩ := Kd.R_slice hr; subst e2; have HR2 := Aside0.mk (Kd.R_reads' hr).2.2; have HC2 := Aside0.mk (Kd.R_reads' hr).2.1; clear hr) | (go_at_call 83; refine (HW.out _ A2 c2 HR2.out HC2.out).mono ?_; rintro e w3 ⟨rfl, hb⟩; have n_ := Aside0.mk (below_step HB.out hb); have m_ := Aside0.mk (Kd.C_below HR2.out hb); clear HB HR2 hb; have HB := n_; have HR2 := m_; clear n_ m_))
  go_ret
  exact ⟨by rw [HR.out]; rfl, HB.out⟩
 | true =>
  rw [q] at HW
  have HR := Aside0.mk (fit_sum q)
  clear q
  generalize sumTo s.l s.l.length = S at HM HR
  cases qs : decide (S ≤ 500) with
  | true =>
   rw [qs] at HR
   go_enter Try.func32, Try.ntmps32
   go_wp2_with (first | ((with_reducible refine gate_dst (N := 1) rfl ?_); refine box_event ?hg (N := 1) ?hd (cs := (stC s).toArray) (t := 55) ?hr ?_; (case hd => rfl); (case hg => rfl); (case hr => first | (go_simp; done) | (go_simp; rfl)); intro g1 hg_ w1 hb_ hb; have K1 := Aside0.mk hb_; have HB := Aside0.mk hb; clear hb_ hb hg_) | ((with_reducible refine gate_dst (N := 4) rfl ?_); refine Kd.event_run rfl (mem_load (ad := ⟨g1, 0, none⟩) (cs := stC s) rfl rfl (block_cells K1.out) Try.underlying55 rfl (by kernel_rfl)) ?_) | (go_at_call 92; refine (HN.out _).mono ?_; rintro e w2 ⟨v2, rfl, hr, hb⟩; have n_ := Aside0.mk (below_step HB.out hb); clear HB hb; have HB := n_; clear n_; obtain ⟨A2, c2, e2⟩ := Kd.R_slice hr; subst e2; have HR2 := Aside0.mk (Kd.R_reads' hr).2.2; have HC2 := Aside0.mk (Kd.R_reads' hr).2.1; clear hr) | (go_at_call 83; refine (HW.out _ A2 c2 HR2.out HC2.out).mono ?_; rintro e w3 ⟨rfl, hb⟩; have n_ := Aside0.mk (below_step HB.out hb); have m_ := Aside0.mk (Kd.C_below HR2.out hb); clear HB HR2 hb; have HB := n_; have HR2 := m_; clear n_ m_) | (go_at_call 91; refine (HM.out _ A2 c2 HR2.out HC2.out).mono ?_; rintro e w4 ⟨rfl, hd⟩; have n_ := Aside0.mk (below_step HB.out (by first | exact hd | exact hd.below)); clear HB hd; have HB := n_; clear n_))
   go_ret
   exact ⟨by rw [HR.out]; first | rfl | (rw [← qs]; rfl), HB.out⟩
  | false =>
   rw [qs] at HR
   go_enter Try.func32, Try.ntmps32
   go_wp2_with (first | ((with_reducible refine gate_dst (N := 1) rfl ?_); refine box_event ?hg (N := 1) ?hd (cs := (stC s).toArray) (t := 55) ?hr ?_; (case hd => rfl); (case hg => rfl); (case hr => first | (go_simp; done) | (go_simp; rfl)); intro g1 hg_ w1 hb_ hb; have K1 := Aside0.mk hb_; have HB := Aside0.mk hb; clear hb_ hb hg_) | ((with_reducible refine gate_dst (N := 4) rfl ?_); refine Kd.event_run rfl (mem_load (ad := ⟨g1, 0, none⟩) (cs := stC s) rfl rfl (block_cells K1.out) Try.underlying55 rfl (by kernel_rfl)) ?_) | (go_at_call 92; refine (HN.out _).mono ?_; rintro e w2 ⟨v2, rfl, hr, hb⟩; have n_ := Aside0.mk (below_step HB.out hb); clear HB hb; have HB := n_; clear n_; obtain ⟨A2, c2, e2⟩ := Kd.R_slice hr; subst e2; have HR2 := Aside0.mk (Kd.R_reads' hr).2.2; have HC2 := Aside0.mk (Kd.R_reads' hr).2.1; clear hr) | (go_at_call 83; refine (HW.out _ A2 c2 HR2.out HC2.out).mono ?_; rintro e w3 ⟨rfl, hb⟩; have n_ := Aside0.mk (below_step HB.out hb); have m_ := Aside0.mk (Kd.C_below HR2.out hb); clear HB HR2 hb; have HB := n_; have HR2 := m_; clear n_ m_) | (go_at_call 91; refine (HM.out _ A2 c2 HR2.out HC2.out).mono ?_; rintro e w4 ⟨rfl, hd⟩; have n_ := Aside0.mk (below_step HB.out (by first | exact hd | exact hd.below)); clear HB hd; have HB := n_; clear n_))
   go_ret
   exact ⟨by rw [HR.out]; first | rfl | (rw [← qs]; rfl), HB.out⟩
set_option maxHeartbeats 8000000 in
set_option maxRecDepth 100000 in
theorem house_pred (s : S55) (ht : TypedSt s) (w : World) :
 Calls Try.prog 122 #[.agg (stC s).toArray] w fun e w' => e = .returned (.bool (!fitB s)) ∧ Below w.heap.size w w' := by
 have HV := Aside0.mk (fun (w : World) => validStock_calls s ht w)
 generalize fitB s = r at HV ⊢
 cases r with
 | true =>
  go_enter Try.func122, Try.ntmps122
  go_wp2_with (first | ((with_reducible refine gate_dst (N := 1) rfl ?_); refine box_event ?hg (N := 1) ?hd (cs := (stC s).toArray) (t := 55) ?hr ?_; (case hd => rfl); (case hg => rfl); (case hr => first | (go_simp; done) | (go_simp; rfl)); intro g1 hg_ w1 hb_ hb; have K1 := Aside0.mk hb_; have HB := Aside0.mk hb; clear hb_ hb hg_) | ((with_reducible refine gate_dst (N := 3) rfl ?_); refine Kd.event_run rfl (mem_load (ad := ⟨g1, 0, none⟩) (cs := stC s) rfl rfl (block_cells K1.out) Try.underlying55 rfl (by kernel_rfl)) ?_) | (go_at_call 32; refine (HV.out _).mono ?_; rintro e w' ⟨rfl, hb⟩; have n_ := Aside0.mk (below_step HB.out hb); clear HB hb; have HB := n_; clear n_))
  go_ret
  exact ⟨rfl, HB.out⟩
 | false =>
  go_enter Try.func122, Try.ntmps122
  go_wp2_with (first | ((with_reducible refine gate_dst (N := 1) rfl ?_); refine box_event ?hg (N := 1) ?hd (cs := (stC s).toArray) (t := 55) ?hr ?_; (case hd => rfl); (case hg => rfl); (case hr => first | (go_simp; done) | (go_simp; rfl)); intro g1 hg_ w1 hb_ hb; have K1 := Aside0.mk hb_; have HB := Aside0.mk hb; clear hb_ hb hg_) | ((with_reducible refine gate_dst (N := 3) rfl ?_); refine Kd.event_run rfl (mem_load (ad := ⟨g1, 0, none⟩) (cs := stC s) rfl rfl (block_cells K1.out) Try.underlying55 rfl (by kernel_rfl)) ?_) | (go_at_call 32; refine (HV.out _).mono ?_; rintro e w' ⟨rfl, hb⟩; have n_ := Aside0.mk (below_step HB.out hb); clear HB hb; have HB := n_; clear n_))
  go_ret
  exact ⟨rfl, HB.out⟩
end Go.Proofs.Ytggjdcijplgpdaa.H
end
