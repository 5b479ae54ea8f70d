import Derived.Test.YtggjdcijplgpdaazFStocksEHOk
import Derived.Test.YtggjdcijplgpdaazFStocksEMend
import Derived.Test.YtggjdcijplgpdaazFStocksEInH
import Derived.Test.YtggjdcijplgpdaazFStocksH12
import Derived.Test.YtggjdcijplgpdaazFStocksECloneSt
import Derived.Shelf.Abstract
import Derived.Test.YtggjdcijplgpdaazFStocksEFresh
import Derived.Test.YtggjdcijplgpdaazFStocksELayG
import Derived.Test.YtggjdcijplgpdaazFStocksEDayOf
import Derived.Test.YtggjdcijplgpdaazFStocksH14
import Derived.Test.YtggjdcijplgpdaazFStocksH15
section
namespace Go.Proofs.Ytggjdcijplgpdaa.H
open Go.RowKit Go.Proofs.YtggjdcijplgpdaaW.PrintWords Go.Proofs.YtggjdcijplgpdaaW.PrintLast Go.Proofs.YtggjdcijplgpdaaW.PrintMore
attribute [local go_sem] max2_int min2_int max_two min_two max_three min_three max_four min_four
set_option linter.unusedVariables false
set_option linter.unusedSimpArgs false
structure MRes where
 l : List S55
 x : Int
 y : Int
 z : Int
 c : Int
def mendS (s : S55) (u : Nat) : S55 := (s.put 24 (s.at_ 24 - 1)).put u ((s.put 24 (s.at_ 24 - 1)).at_ u + 1)
def mendR (l : List S55) (a1 a2 a3 : Int) (u : Nat) : MRes := if 1 ≤ (l.getD 0 z55).at_ 24 then ⟨l.set 0 (mendS (l.getD 0 z55) u), a1, a2, a3, 0⟩ else ⟨[], 0, 0, 0, 4⟩
theorem mend_any (w : World) (A0 : Option Addr) (c0 : Nat) (l : List S55) (a1 a2 a3 : Int) (hr : Kd.C k55 w A0 l.length l) (hc : l.length ≤ c0) (hrow : RowAt w A0 l) (h : FitH l a1 a2 a3) (u : Nat) (hu : u < 8) (r : MRes) (hrr : mendR l a1 a2 a3 u = r) :
 Calls Try.prog 36 #[.agg #[.slice A0 l.length c0, .int .i16 a1, .int .i8 a2, .int .i16 a3], .int .i64 0, .int .i64 1, .int .i64 ((u : Int) + 1)] w fun e w' => ∃ v0 : Value, e = .returned (.tuple #[.agg #[v0, .int .i16 r.x, .int .i8 r.y, .int .i16 r.z], .int .i64 r.c]) ∧ Kd.R k55 55 w' w.heap.size (fun _ => True) v0 r.l ∧ Below w.heap.size w w' := by
 subst hrr
 unfold mendR
 by_cases c : 1 ≤ (l.getD 0 z55).at_ 24
 · rw [if_pos c]
   exact mendRags_ok w A0 c0 l a1 a2 a3 hr hc hrow h u hu c _ rfl
 · rw [if_neg c]
   exact (mendRags_no w A0 c0 l a1 a2 a3 hr hc hrow h u hu c).mono fun e w' he => ⟨_, he.1, Kd.R_nil _ _ _ _ _, he.2⟩
theorem spec_mend_any (w : World) (A0 : Option Addr) (c0 : Nat) (l : List S55) (a1 a2 a3 : Int) (hr : Kd.C k55 w A0 l.length l) (hc : l.length ≤ c0) (hrow : RowAt w A0 l) (h : FitH l a1 a2 a3) (u : Nat) (hu : u < 8) (r : MRes) (hrr : mendR l a1 a2 a3 u = r) :
 Calls Try.prog 37 #[.agg #[.slice A0 l.length c0, .int .i16 a1, .int .i8 a2, .int .i16 a3], .int .i64 0, .int .i64 1, .int .i64 ((u : Int) + 1)] w fun e w' => ∃ v0 : Value, e = .returned (.tuple #[.agg #[v0, .int .i16 r.x, .int .i8 r.y, .int .i16 r.z], .int .i64 r.c]) ∧ Kd.R k55 55 w' w.heap.size (fun _ => True) v0 r.l ∧ Below w.heap.size w w' := by
 subst hrr
 unfold mendR
 by_cases c : 1 ≤ (l.getD 0 z55).at_ 24
 · rw [if_pos c]
   exact specMendRags_ok w A0 c0 l a1 a2 a3 hr hc hrow h u hu c _ rfl
 · rw [if_neg c]
   exact (specMendRags_no w A0 c0 l a1 a2 a3 hr hc hrow h u hu c).mono fun e w' he => ⟨_, he.1, Kd.R_nil _ _ _ _ _, he.2⟩
theorem mendR_code {l : List S55} {a1 a2 a3 : Int} {u : Nat} {r : MRes} (h : mendR l a1 a2 a3 u = r) : (1 ≤ (l.getD 0 z55).at_ 24 ∧ r.c = 0) ∨ (¬ 1 ≤ (l.getD 0 z55).at_ 24 ∧ r.c = 4) := by
 subst h
 unfold mendR
 by_cases c : 1 ≤ (l.getD 0 z55).at_ 24
 · exact .inl ⟨c, by rw [if_pos c]⟩
 · exact .inr ⟨c, by rw [if_neg c]⟩
theorem row_len {w : World} {g cap : Nat} {l : List S55} (h : RowSt w g cap l) : l.length ≤ cap := by
 obtain ⟨_, _, hC⟩ := h.blk
 exact hC.len
theorem row_rowAt {w : World} {g cap : Nat} {l : List S55} (h : RowSt w g cap l) : RowAt w (some ⟨g, 0, none⟩) l := fun _ => ⟨g, cap, rfl, h⟩
end Go.Proofs.Ytggjdcijplgpdaa.H
end
section
namespace Go.Proofs.Ytggjdcijplgpdaa.H
open Go.RowKit Go.Proofs.YtggjdcijplgpdaaW.PrintWords Go.Proofs.YtggjdcijplgpdaaW.PrintLast Go.Proofs.YtggjdcijplgpdaaW.PrintMore
attribute [local go_sem] max2_int min2_int max_two min_two max_three min_three max_four min_four   -- for this text's walks alone
set_option linter.unusedVariables false
set_option linter.unusedSimpArgs false
def spec_SumOf.l0 : Nat → List Int → Int → Int → Option (Int)
 | 0, _, _, _ => none
 | k + 1, x0, x3, x4 => if x4 < (x0.length : Int) then (if 0 ≤ x4 then (spec_SumOf.l0 k x0 (wrap64 (x3 + (rd x0 x4))) (wrap64 (x4 + 1))) else (none)) else (some x3)
def spec_SumOf.f (k : Nat) (l0 : List Int) : Option (Int) := spec_SumOf.l0 k l0 0 0
theorem spec_SumOf.mono_l : ∀ k, (∀ y0 y1 y2, LeO (spec_SumOf.l0 k y0 y1 y2) (spec_SumOf.l0 (k + 1) y0 y1 y2))
 | 0 => fun _ _ _ r h => by simp [spec_SumOf.l0] at h
 | k + 1 => by
  have ih0 := spec_SumOf.mono_l k
  · intro y0 y1 y2
    unfold spec_SumOf.l0
    repeat' first
    | (with_reducible exact ih0 _ _ _)
    | (with_reducible exact LeO.refl _)
    | (with_reducible exact LeO.none _)
    | (with_reducible refine LeO.ite ?_ ?_)
    | (with_reducible refine LeO.bind ?_ (fun _ => ?_))
    | exact ih0 _ _ _
    | exact LeO.none _
    | refine LeO.ite ?_ ?_
    | refine LeO.bind ?_ (fun _ => ?_)
theorem spec_SumOf.mono : ∀ a0 k, LeO (spec_SumOf.f k a0) (spec_SumOf.f (k + 1) a0) := by
 intro a0 k
 have ih0 := spec_SumOf.mono_l k
 unfold spec_SumOf.f
 repeat' first
  | (with_reducible exact ih0 _ _ _)
  | (with_reducible exact LeO.refl _)
  | (with_reducible exact LeO.none _)
  | (with_reducible refine LeO.ite ?_ ?_)
  | (with_reducible refine LeO.bind ?_ (fun _ => ?_))
  | exact ih0 _ _ _
  | exact LeO.none _
  | refine LeO.ite ?_ ?_
  | refine LeO.bind ?_ (fun _ => ?_)
set_option maxHeartbeats 8000000 in
set_option maxRecDepth 100000 in
theorem spec_SumOf.calls (k : Nat) (A0 : Option Addr) (c0 : Nat) (l0 : List Int) (r : Int) (w : World) (hr0 : Kd.C (Kd.int .i64) w A0 l0.length l0) (hc0 : l0.length ≤ c0) (h : spec_SumOf.f k l0 = some r) :
 Calls Try.prog 41 #[.slice A0 l0.length c0] w fun e w' => e = .returned (.int .i64 r) ∧ Drawn0 w w' := by
 have HR0 := Aside0.mk hr0
 have HC0 := Aside0.mk hc0
 clear hr0 hc0
 have H : (spec_SumOf.l0 k l0 0 0) = some r := h
 clear h
 have H' := Aside0.mk H
 clear H
 go_enter Try.func41, Try.ntmps41
 go_wp2
 go_loopg [3, 4] k (fun kq v3 v4 w' => ∃ (x3_1 : Int) (x4_1 : Int), v3 = .int .i64 x3_1 ∧ v4 = .int .i64 x4_1 ∧ Aside0 (spec_SumOf.l0 kq l0 x3_1 x4_1 = some r) ∧ Aside0 (kq ≤ k) ∧ Drawn0 w w')
 case atStart => exact ⟨(0), (0), (by first | rfl | (simp; done) | (simp [*]; done)), (by first | rfl | (simp; done) | (simp [*]; done)), H', ⟨Nat.le_refl _⟩, by repeat (first | exact Drawn0.refl _ | apply Drawn0.step)⟩
 case round =>
  clear H'
  obtain ⟨x3_1, x4_1, rfl, rfl, HA, HK1, ⟨m1, rfl⟩⟩ := hrel
  cases gk with
  | zero => exact absurd HA.out (by simp [spec_SumOf.l0])
  | succ k1 =>
   have H := HA.out
   clear HA
   simp only [spec_SumOf.l0] at H
   by_cases c2 : x4_1 < (l0.length : Int)
   · rw [if_pos c2] at H
     have c2b0 : decide (x4_1 < (l0.length : Int)) = true := decide_eq_true c2
     clear c2
     by_cases c3 : 0 ≤ x4_1
     · rw [if_pos c3] at H
       have c3b0 : decide (0 ≤ x4_1) = true := decide_eq_true c3
       clear c3
       have H' := Aside0.mk H
       clear H
       have p419 : 0 ≤ (x4_1 : Int) := of_decide_eq_true (by first | (with_reducible assumption) | assumption)
       have q419 : x4_1 < (l0.length : Int) := of_decide_eq_true (by first | (with_reducible assumption) | assumption)
       obtain ⟨ad419, e419, hx419_0⟩ := Kd.at_int HR0.out x4_1 p419 q419
       cases e419
       replace p419 := eq_true p419
       replace q419 := eq_true q419
       go_wp2
       go_roundg k1
       case measure => have := HK1.out; omega
       case rel => exact ⟨(wrap64 (x3_1 + (rd l0 x4_1))), (wrap64 (x4_1 + 1)), (by first | rfl | (simp; done) | (simp [*]; done)), (by first | rfl | (simp; done) | (simp [*]; done)), H', ⟨by have := HK1.out; omega⟩, by repeat (first | exact Drawn0.refl _ | apply Drawn0.step)⟩
     · rw [if_neg c3] at H
       exact absurd H (by simp)
   · rw [if_neg c2] at H
     have c2b0 : decide (x4_1 < (l0.length : Int)) = false := decide_eq_false c2
     clear c2
     obtain rfl := Option.some.inj H
     go_wp2
     go_ret
     exact ⟨by first | rfl | (simp; done) | (simp [*]; done), by repeat (first | exact Drawn0.refl _ | apply Drawn0.step)⟩
end Go.Proofs.Ytggjdcijplgpdaa.H
end
section
namespace Go.Proofs.Ytggjdcijplgpdaa.H
open Go.RowKit Go.Proofs.YtggjdcijplgpdaaW.PrintWords Go.Proofs.YtggjdcijplgpdaaW.PrintLast Go.Proofs.YtggjdcijplgpdaaW.PrintMore
attribute [local go_sem] max2_int min2_int max_two min_two max_three min_three max_four min_four
set_option linter.unusedVariables false
set_option linter.unusedSimpArgs false
theorem p6pick {l : List Int} (h : Bytes l) (q : Int) (h1 : 1 < q) (h2 : q ≤ 200) : ∃ t, spec_P6Pick.f l q = some t ∧ 0 ≤ t ∧ t < q := by
 obtain ⟨t, y, hp, t0, t1⟩ := pickB h 0 (by omega) 0 q h1 h2
 refine ⟨t, ?_, t0, t1⟩
 unfold spec_P6Pick.f spec_l00From.f
 rw [Option.bind_some, show spec_l00Src_pick.f l 0 0 q = _ from hp, Option.bind_some]
theorem p6needs {l : List Int} (h : Bytes l) : ∃ xs : List Int, Ev (fun k => spec_P6Needs.f k l 1) (xs.map fun x => [x]) ∧ xs.length ≤ 8 ∧ ∀ x ∈ xs, 0 ≤ x ∧ x ≤ 6 := by
 obtain ⟨t, y, hp, t0, t1⟩ := pickB h 0 (by omega) 0 9 (by decide) (by decide)
 have key : ∀ (d : Nat) (t : Int) (i : Nat) (y : Int) (out : List Int), t ≤ (d : Int) → d ≤ 8 → i + d ≤ 1000 → out.length + d ≤ 8 → (∀ x ∈ out, 0 ≤ x ∧ x ≤ 6) → ∃ xs : List Int, Ev (fun k => spec_P6Needs.l0 k 1 (out.map fun x => [x]) t l (i : Int) y) (xs.map fun x => [x]) ∧ xs.length ≤ 8 ∧ ∀ x ∈ xs, 0 ≤ x ∧ x ≤ 6 := by
  intro d
  induction d with
  | zero =>
   intro t i y out ht _ _ ho hf
   exact ⟨out, Ev.step (f := fun _ => some (out.map fun x => [x])) (fun k => by rw [spec_P6Needs.l0, if_neg (by omega)]) (Ev.const rfl), by omega, hf⟩
  | succ d ih =>
   intro t i y out ht hd hi ho hf
   by_cases c : t > 0
   · obtain ⟨a, y1, ha, a0, a1⟩ := pickB h i (by omega) y 7 (by decide) (by decide)
     obtain ⟨xs, hx, h1, h2⟩ := ih (t - 1) (i + 1) y1 (out ++ [a]) (by omega) (by omega) (by omega) (by rw [List.length_append, List.length_singleton]; omega) (fun x hx => by
      rcases List.mem_append.mp hx with hx | hx
      · exact hf x hx
      · rw [List.mem_singleton] at hx
        subst hx
        omega)
     refine ⟨xs, Ev.step (f := fun k => spec_P6Needs.l1 k 1 (out.map fun x => [x]) t [] 0 l (i : Int) y) (fun k => by rw [spec_P6Needs.l0, if_pos c]) ?_, h1, h2⟩
     refine Ev.step (f := fun k => spec_P6Needs.l1 k 1 (out.map fun x => [x]) t [a] 1 l ((i + 1 : Nat) : Int) y1) (fun k => ?_) ?_
     · rw [spec_P6Needs.l1, if_pos (by decide), ha, Option.bind_some, if_pos (by decide), show wrap64 (0 + 1) = 1 from w64i (by decide) (by decide)]
       rfl
     · refine Ev.step (f := fun k => spec_P6Needs.l0 k 1 ((out ++ [a]).map fun x => [x]) (t - 1) l ((i + 1 : Nat) : Int) y1) (fun k => ?_) hx
       rw [spec_P6Needs.l1, if_neg (by decide), if_pos (by rw [List.length_map]; omega), w64i (z := t - 1) (by omega) (by omega), List.map_append]
       rfl
   · exact ⟨out, Ev.step (f := fun _ => some (out.map fun x => [x])) (fun k => by rw [spec_P6Needs.l0, if_neg c]) (Ev.const rfl), by omega, hf⟩
 obtain ⟨xs, hx, h1, h2⟩ := key 8 t 1 y [] (by omega) (by omega) (by omega) (by simp) (fun x hx => by cases hx)
 refine ⟨xs, Ev.congr (f := fun k => spec_P6Needs.l0 k 1 [] t l ((1 : Nat) : Int) y) (fun k => ?_) hx, h1, h2⟩
 unfold spec_P6Needs.f spec_l00From.f
 rw [Option.bind_some, show spec_l00Src_pick.f l 0 0 9 = _ from hp, Option.bind_some]
theorem sumOf_ev {t : List Int} (h : ∀ x ∈ t, 0 ≤ x ∧ x ≤ 500) (hl : t.length ≤ 1000) : Ev (fun k => spec_SumOf.f k t) (sumL t) := by
 have key : ∀ (d i : Nat) (s : Int), i + d = t.length → s + sumL (t.drop i) = sumL t → 0 ≤ s ∧ s ≤ 500 * (i : Int) → Ev (fun k => spec_SumOf.l0 k t s (i : Int)) (sumL t) := by
  intro d
  induction d with
  | zero =>
   intro i s hi hs _
   have e : sumL t = s := by
    rw [← hs, List.drop_of_length_le (by omega)]
    show s + 0 = s
    omega
   rw [e]
   exact Ev.step (f := fun _ => some s) (fun k => by rw [spec_SumOf.l0, if_neg (by omega)]) (Ev.const rfl)
  | succ d ih =>
   intro i s hi hs hb
   have hlt : i < t.length := by omega
   have hx := h _ (List.getElem_mem hlt)
   have hr : rd t (i : Int) = t[i] := by
    show t.getD (i : Int).toNat 0 = _
    rw [Int.toNat_natCast, List.getD_eq_getElem?_getD, List.getElem?_eq_getElem hlt]
    rfl
   have hd : sumL (t.drop i) = t[i] + sumL (t.drop (i + 1)) := by
    rw [List.drop_eq_getElem_cons hlt]
    rfl
   refine Ev.step (f := fun k => spec_SumOf.l0 k t (s + t[i]) ((i + 1 : Nat) : Int)) (fun k => ?_) (ih (i + 1) (s + t[i]) (by omega) (by rw [hd] at hs; omega) (by constructor <;> omega))
   rw [spec_SumOf.l0, if_pos (by omega), if_pos (by omega), hr, w64i (by omega) (by omega), w64i (by omega) (by omega)]
   rfl
 exact key t.length 0 0 (by omega) (by simp) (by omega)
end Go.Proofs.Ytggjdcijplgpdaa.H
end
