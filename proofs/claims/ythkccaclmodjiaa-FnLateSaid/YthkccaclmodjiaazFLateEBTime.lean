import Derived.Test.YthkccaclmodjiaazFLateEShort
import Derived.Test.YthkccaclmodjiaazFLateI0
import Derived.Test.YthkccaclmodjiaazFLateELayS
import Derived.Test.YthkccaclmodjiaazFLateI1
import Derived.Test.YthkccaclmodjiaazFLateI2
import Derived.Test.YthkccaclmodjiaazFLateI7
import Derived.Test.YthkccaclmodjiaazFLateEBLem1
import Derived.Test.YthkccaclmodjiaazFLateI3
section
namespace Go.Proofs.Ythkccaclmodjiaa.I
open Go.RowKit Go.Proofs.YthkccaclmodjiaaW.PrintWords Go.Proofs.YthkccaclmodjiaaW.PrintLast Go.Proofs.YthkccaclmodjiaaW.PrintMore
attribute [local go_sem] max2_int min2_int max_two min_two max_three min_three max_four min_four   -- for this text's walks alone
set_option linter.unusedVariables false
set_option linter.unusedSimpArgs false
def slices_Index_int64_int64.l0 : Nat → List Int → Int → Int → Int → Option (Int)
 | 0, _, _, _, _ => none
 | k + 1, x0, x1, x7, x8 => if x8 < x7 then (if 0 ≤ x8 then (if x8 < (x0.length : Int) then (if x1 = (rd x0 x8) then (some x8) else (slices_Index_int64_int64.l0 k x0 x1 x7 (wrap64 (x8 + 1)))) else (none)) else (none)) else (some (-1))
def slices_Index_int64_int64.f (k : Nat) (l0 : List Int) (a1 : Int) : Option (Int) := slices_Index_int64_int64.l0 k l0 a1 (l0.length : Int) 0
theorem slices_Index_int64_int64.mono_l : ∀ k, (∀ y0 y1 y2 y3, LeO (slices_Index_int64_int64.l0 k y0 y1 y2 y3) (slices_Index_int64_int64.l0 (k + 1) y0 y1 y2 y3))
 | 0 => fun _ _ _ _ r h => by simp [slices_Index_int64_int64.l0] at h
 | k + 1 => by
  have ih0 := slices_Index_int64_int64.mono_l k
  · intro y0 y1 y2 y3
    unfold slices_Index_int64_int64.l0
    repeat' first
    | (with_reducible exact ih0 _ _ _ _)
    | (with_reducible exact LeO.refl _)
    | (with_reducible exact LeO.none _)
    | (with_reducible refine LeO.ite ?_ ?_)
    | (with_reducible refine LeO.bind ?_ (fun _ => ?_))
    | exact ih0 _ _ _ _
    | exact LeO.none _
    | refine LeO.ite ?_ ?_
    | refine LeO.bind ?_ (fun _ => ?_)
theorem slices_Index_int64_int64.mono : ∀ a0 a1 k, LeO (slices_Index_int64_int64.f k a0 a1) (slices_Index_int64_int64.f (k + 1) a0 a1) := by
 intro a0 a1 k
 have ih0 := slices_Index_int64_int64.mono_l k
 unfold slices_Index_int64_int64.f
 repeat' first
  | (with_reducible exact ih0 _ _ _ _)
  | (with_reducible exact LeO.refl _)
  | (with_reducible exact LeO.none _)
  | (with_reducible refine LeO.ite ?_ ?_)
  | (with_reducible refine LeO.bind ?_ (fun _ => ?_))
  | exact ih0 _ _ _ _
  | exact LeO.none _
  | refine LeO.ite ?_ ?_
  | refine LeO.bind ?_ (fun _ => ?_)
set_option maxHeartbeats 8000000 in
set_option maxRecDepth 100000 in
theorem slices_Index_int64_int64.calls (k : Nat) (A0 : Option Addr) (c0 : Nat) (l0 : List Int) (a1 : Int) (r : Int) (w : World) (hr0 : Kd.C (Kd.int .i64) w A0 l0.length l0) (hc0 : l0.length ≤ c0) (h : slices_Index_int64_int64.f k l0 a1 = some r) :
 Calls Try.prog 107 #[.slice A0 l0.length c0, .int .i64 a1] w fun e w' => e = .returned (.int .i64 r) ∧ Drawn0 w w' := by
 have HR0 := Aside0.mk hr0
 have HC0 := Aside0.mk hc0
 clear hr0 hc0
 have H : (slices_Index_int64_int64.l0 k l0 a1 (l0.length : Int) 0) = some r := h
 clear h
 have H' := Aside0.mk H
 clear H
 go_enter Try.func107, Try.ntmps107
 go_wp2
 go_loopg [8] k (fun kq v8 w' => ∃ (x8_1 : Int), v8 = .int .i64 x8_1 ∧ Aside0 (slices_Index_int64_int64.l0 kq l0 a1 (l0.length : Int) x8_1 = some r) ∧ Aside0 (kq ≤ k) ∧ Drawn0 w w')
 case atStart => exact ⟨(0), (by first | rfl | (simp; done) | (simp [*]; done)), H', ⟨Nat.le_refl _⟩, by repeat (first | exact Drawn0.refl _ | apply Drawn0.step)⟩
 case round =>
  clear H'
  try clear c1
  try clear p2
  obtain ⟨x8_1, rfl, HA, HK1, ⟨m1, rfl⟩⟩ := hrel
  cases gk with
  | zero => exact absurd HA.out (by simp [slices_Index_int64_int64.l0])
  | succ k1 =>
   have H := HA.out
   clear HA
   simp only [slices_Index_int64_int64.l0] at H
   by_cases c3 : x8_1 < (l0.length : Int)
   · rw [if_pos c3] at H
     have c3b0 : decide (x8_1 < (l0.length : Int)) = true := decide_eq_true c3
     clear c3
     by_cases c4 : 0 ≤ x8_1
     · rw [if_pos c4] at H
       have c4b0 : decide (0 ≤ x8_1) = true := decide_eq_true c4
       clear c4
       by_cases c5 : x8_1 < (l0.length : Int)
       · rw [if_pos c5] at H
         have c5b0 : decide (x8_1 < (l0.length : Int)) = true := decide_eq_true c5
         clear c5
         by_cases c6 : a1 = (rd l0 x8_1)
         · rw [if_pos c6] at H
           have c6b0 : (a1 == (rd l0 x8_1)) = true := beq_iff_eq.mpr c6
           have c6b1 : (a1 != (rd l0 x8_1)) = false := bne_eq_false_iff_eq.mpr c6
           clear c6
           obtain rfl := Option.some.inj H
           have p278 : 0 ≤ (x8_1 : Int) := dtB
           have q278 : x8_1 < (l0.length : Int) := dtB
           obtain ⟨ad278, e278, hx278_0⟩ := Kd.at_int HR0.out x8_1 p278 q278
           cases e278
           replace p278 := eq_true p278
           replace q278 := eq_true q278
           go_wp2
           go_ret
           exact ⟨by first | rfl | (simp; done) | (simp [*]; done), by repeat (first | exact Drawn0.refl _ | apply Drawn0.step)⟩
         · rw [if_neg c6] at H
           have c6b0 : (a1 == (rd l0 x8_1)) = false := beq_eq_false_iff_ne.mpr c6
           have c6b1 : (a1 != (rd l0 x8_1)) = true := bne_iff_ne.mpr c6
           have H' := Aside0.mk H
           clear H
           have p278 : 0 ≤ (x8_1 : Int) := dtB
           have q278 : x8_1 < (l0.length : Int) := dtB
           obtain ⟨ad278, e278, hx278_0⟩ := Kd.at_int HR0.out x8_1 p278 q278
           cases e278
           replace p278 := eq_true p278
           replace q278 := eq_true q278
           go_wp2
           go_roundg k1
           case measure => have := HK1.out; omega
           case rel => exact ⟨(wrap64 (x8_1 + 1)), (by first | rfl | (simp; done) | (simp [*]; done)), H', ⟨by have := HK1.out; omega⟩, by repeat (first | exact Drawn0.refl _ | apply Drawn0.step)⟩
       · rw [if_neg c5] at H
         exact absurd H (by simp)
     · rw [if_neg c4] at H
       exact absurd H (by simp)
   · rw [if_neg c3] at H
     have c3b0 : decide (x8_1 < (l0.length : Int)) = false := decide_eq_false c3
     clear c3
     obtain rfl := Option.some.inj H
     go_wp2
     go_ret
     exact ⟨by first | rfl | (simp; done) | (simp [*]; done), by repeat (first | exact Drawn0.refl _ | apply Drawn0.step)⟩
def slices_Contains_int64_int64.f (k : Nat) (l0 : List Int) (a1 : Int) : Option (Bool) := (slices_Index_int64_int64.f k l0 a1).bind fun t279 => (some (decide (t279 ≥ 0)))
theorem slices_Contains_int64_int64.mono : ∀ a0 a1 k, LeO (slices_Contains_int64_int64.f k a0 a1) (slices_Contains_int64_int64.f (k + 1) a0 a1) := by
 intro a0 a1 k
 unfold slices_Contains_int64_int64.f
 repeat' first
  | (with_reducible exact slices_Index_int64_int64.mono _ _ _)
  | (with_reducible exact LeO.refl _)
  | (with_reducible exact LeO.none _)
  | (with_reducible refine LeO.ite ?_ ?_)
  | (with_reducible refine LeO.bind ?_ (fun _ => ?_))
  | exact slices_Index_int64_int64.mono _ _ _
  | exact LeO.none _
  | refine LeO.ite ?_ ?_
  | refine LeO.bind ?_ (fun _ => ?_)
set_option maxHeartbeats 8000000 in
set_option maxRecDepth 100000 in
theorem slices_Contains_int64_int64.calls (k : Nat) (A0 : Option Addr) (c0 : Nat) (l0 : List Int) (a1 : Int) (r : Bool) (w : World) (hr0 : Kd.C (Kd.int .i64) w A0 l0.length l0) (hc0 : l0.length ≤ c0) (h : slices_Contains_int64_int64.f k l0 a1 = some r) :
 Calls Try.prog 78 #[.slice A0 l0.length c0, .int .i64 a1] w fun e w' => e = .returned (.bool r) ∧ Drawn0 w w' := by
 have HR0 := Aside0.mk hr0
 have HC0 := Aside0.mk hc0
 clear hr0 hc0
 have H : ((slices_Index_int64_int64.f k l0 a1).bind fun t279 => (some (decide (t279 ≥ 0)))) = some r := h
 clear h
 replace H := Option.bind_eq_some_iff.mp H
 obtain ⟨t279, A30, H⟩ := H
 replace H : (some (decide (t279 ≥ 0))) = some r := H
 have A3 := Aside0.mk A30
 clear A30
 obtain rfl := Option.some.inj H
 go_enter Try.func78, Try.ntmps78
 go_wp2_with (first | ((with_reducible refine gate_callee (f := 107) rfl ?_); refine goesL_ (some 7) rfl rfl Try.func107 (by kernel_rfl) rfl #[.slice A0 l0.length c0, .int .i64 a1] rfl (by (try simp only [List.map_toArray, List.map_cons, List.map_nil]); first | done | rfl | (simp only [List.length_drop, List.length_take]; rfl)) ?_; (with_reducible refine (slices_Index_int64_int64.calls k _ _ l0 a1 t279 _ ?side1 ?side2 A3.out).mono ?_); (case side1 => exact cvC (HR0.out)); (case side2 => exact HC0.out); rintro e w' ⟨rfl, ⟨nd, rfl⟩⟩; refine ⟨_, rfl, ?_⟩))
 go_ret
 exact ⟨by first | rfl | (simp; done) | (simp [*]; done), by repeat (first | exact Drawn0.refl _ | apply Drawn0.step)⟩
end Go.Proofs.Ythkccaclmodjiaa.I
end
section
namespace Go.Proofs.Ythkccaclmodjiaa.I
open Go.RowKit Go.Proofs.YthkccaclmodjiaaW.PrintWords Go.Proofs.YthkccaclmodjiaaW.PrintLast Go.Proofs.YthkccaclmodjiaaW.PrintMore
attribute [local go_sem] max2_int min2_int max_two min_two max_three min_three max_four min_four
set_option linter.unusedVariables false
set_option linter.unusedSimpArgs false
theorem has_ev (l : List Int) (x : Int) (hm : l.length ≤ 4611686018427387904) : Ev (fun k => spec_l00Has.f k l x) (l.contains x) := by
 refine Ev.loop (L := fun k s => spec_l00Has.l0 k l x s) (fun s d => ∃ i : Nat, i + d = l.length ∧ s = (i : Int) ∧ (l.drop i).contains x = l.contains x) ?_ l.length 0 ⟨0, by omega, rfl, rfl⟩
 rintro s d ⟨i, hd, rfl, hf⟩
 by_cases c : i < l.length
 · have e : l.drop i = l[i] :: l.drop (i + 1) := List.drop_eq_getElem_cons c
   rw [e, List.contains_cons] at hf
   by_cases q : l[i] = x
   · refine .inl ⟨0, fun k _ => ?_⟩
     rw [spec_l00Has.l0]
     rw [if_pos (by omega), if_pos (by omega), rd_of_lt l i c, if_pos q, ← hf, q]
     simp
   · refine .inr ⟨((i + 1 : Nat) : Int), d - 1, by omega, ⟨i + 1, by omega, rfl, ?_⟩, 0, fun k _ => ?_⟩
     · rw [← hf]
       have : (x == l[i]) = false := beq_eq_false_iff_ne.mpr fun h => q h.symm
       rw [this]
       rfl
     · rw [spec_l00Has.l0]
       rw [if_pos (by omega), if_pos (by omega), rd_of_lt l i c, if_neg q, w64 _ (by omega) (by omega)]
       rfl
 · obtain rfl : i = l.length := by omega
   refine .inl ⟨0, fun k _ => ?_⟩
   rw [spec_l00Has.l0]
   rw [if_neg (by omega), ← hf, List.drop_length]
   rfl
theorem contains_ev (l : List Int) (x : Int) (hm : l.length ≤ 4611686018427387904) : Ev (fun k => slices_Contains_int64_int64.f k l x) (l.contains x) := by
 have ix : ∃ r : Int, decide (r ≥ 0) = l.contains x ∧ Ev (fun k => slices_Index_int64_int64.f k l x) r := by
  have key : ∀ (d i : Nat), i + d = l.length → ∃ r : Int, decide (r ≥ 0) = (l.drop i).contains x ∧ Ev (fun k => slices_Index_int64_int64.l0 k l x (l.length : Int) (i : Int)) r := by
   intro d
   induction d with
   | zero =>
    intro i hd
    obtain rfl : i = l.length := by omega
    refine ⟨-1, by rw [List.drop_length]; rfl, Ev.step (f := fun _ => some (-1)) (fun k => ?_) (Ev.const rfl)⟩
    rw [slices_Index_int64_int64.l0]
    rw [if_neg (by omega)]
   | succ d ih =>
    intro i hd
    have c : i < l.length := by omega
    have c1 : (i : Int) < (l.length : Int) := by omega
    have c2 : (0 : Int) ≤ (i : Int) := by omega
    have e : l.drop i = l[i] :: l.drop (i + 1) := List.drop_eq_getElem_cons c
    have w1 : wrap64 ((i : Int) + 1) = ((i + 1 : Nat) : Int) := by rw [w64 _ (by omega) (by omega)]; rfl
    rw [e, List.contains_cons]
    by_cases q : x = l[i]
    · refine ⟨(i : Int), ?_, Ev.step (f := fun _ => some (i : Int)) (fun k => ?_) (Ev.const rfl)⟩
      · rw [decide_eq_true (by omega), q]; simp
      · rw [slices_Index_int64_int64.l0]
        rw [if_pos c1, if_pos c2, if_pos c1, rd_of_lt l i c, if_pos q]
    · obtain ⟨r, h1, h2⟩ := ih (i + 1) (by omega)
      refine ⟨r, ?_, Ev.step (f := fun k => slices_Index_int64_int64.l0 k l x (l.length : Int) ((i + 1 : Nat) : Int)) (fun k => ?_) h2⟩
      · rw [h1, beq_eq_false_iff_ne.mpr q]; rfl
      · rw [slices_Index_int64_int64.l0]
        rw [if_pos c1, if_pos c2, if_pos c1, rd_of_lt l i c, if_neg q, w1]
  obtain ⟨r, h1, h2⟩ := key l.length 0 (by omega)
  exact ⟨r, h1, h2⟩
 obtain ⟨r, h1, h2⟩ := ix
 refine Ev.bind h2 (Ev.const ?_)
 rw [h1]
def chg (x y a b : Int) : Int := if b ≥ a then x * (b - a) else y * (a - b)
theorem mul_bd (a x : Int) (ha : 0 ≤ a ∧ a ≤ 60) (hx : 0 ≤ x ∧ x ≤ 3) : 0 ≤ a * x ∧ a * x ≤ 180 := by
 obtain rfl | rfl | rfl | rfl : x = 0 ∨ x = 1 ∨ x = 2 ∨ x = 3 := by omega
 all_goals omega
theorem chg_bd (x y a b : Int) (hx : 0 ≤ x ∧ x ≤ 60) (hy : 0 ≤ y ∧ y ≤ 60) (ha : 0 ≤ a ∧ a ≤ 3) (hb : 0 ≤ b ∧ b ≤ 3) : 0 ≤ chg x y a b ∧ chg x y a b ≤ 180 := by
 unfold chg
 split
 · exact mul_bd x _ hx (by omega)
 · exact mul_bd y _ hy (by omega)
theorem specChange_f (x y a b : Int) (hx : wrap64 x = x ∧ 0 ≤ x ∧ x ≤ 60) (hy : wrap64 y = y ∧ 0 ≤ y ∧ y ≤ 60) (ha : 0 ≤ a ∧ a ≤ 3) (hb : 0 ≤ b ∧ b ≤ 3) : spec_l07Change.f x y a b = some (chg x y a b) := by
 unfold spec_l07Change.f chg
 by_cases c : b ≥ a
 · have m := mul_bd x (b - a) hx.2 (by omega)
   rw [if_pos c, if_pos c, hx.1, w64 (b - a) (by omega) (by omega), w64 _ (by omega) (by omega)]
 · have m := mul_bd y (a - b) hy.2 (by omega)
   rw [if_neg c, if_neg c, hy.1, w64 (a - b) (by omega) (by omega), w64 _ (by omega) (by omega)]
theorem implChange_f (x y a b : Int) (hx : wrap64 x = x ∧ 0 ≤ x ∧ x ≤ 60) (hy : wrap64 y = y ∧ 0 ≤ y ∧ y ≤ 60) (ha : 0 ≤ a ∧ a ≤ 3) (hb : 0 ≤ b ∧ b ≤ 3) : impl_Iron_change.f x y a b = some (chg x y a b) := by
 unfold impl_Iron_change.f chg
 by_cases c : b > a
 · have m := mul_bd x (b - a) hx.2 (by omega)
   rw [if_pos c, if_pos (by omega), hx.1, w64 (b - a) (by omega) (by omega), w64 _ (by omega) (by omega)]
 · have m := mul_bd y (a - b) hy.2 (by omega)
   rw [if_neg c, hy.1, w64 (a - b) (by omega) (by omega), w64 _ (by omega) (by omega)]
   by_cases c2 : b ≥ a
   · rw [if_pos c2, show a - b = 0 by omega, show b - a = 0 by omega, Int.mul_zero, Int.mul_zero]
   · rw [if_neg c2]
end Go.Proofs.Ythkccaclmodjiaa.I
end
section
namespace Go.Proofs.Ythkccaclmodjiaa.I
open Go.RowKit Go.Proofs.YthkccaclmodjiaaW.PrintWords Go.Proofs.YthkccaclmodjiaaW.PrintLast Go.Proofs.YthkccaclmodjiaaW.PrintMore
attribute [local go_sem] max2_int min2_int max_two min_two max_three min_three max_four min_four
set_option linter.unusedVariables false
set_option linter.unusedSimpArgs false
def sumMin (l : List S57) : Nat → Int
 | 0 => 0
 | i + 1 => sumMin l i + (rd_T57 l (i : Nat)).f1
def topLevel (l : List S57) : Nat → Int
 | 0 => 0
 | i + 1 => if (rd_T57 l (i : Nat)).f0 > topLevel l i then (rd_T57 l (i : Nat)).f0 else topLevel l i
def Fine (l : List S57) : Prop := ∀ p ∈ l, wrap64 p.f0 = p.f0 ∧ wrap64 p.f1 = p.f1 ∧ wrap64 p.f2 = p.f2 ∧ 1 ≤ p.f0 ∧ p.f0 ≤ 3 ∧ 1 ≤ p.f1 ∧ p.f1 ≤ 60 ∧ 0 ≤ p.f2 ∧ p.f2 ≤ 1000
attribute [local irreducible] sumMin topLevel rd_T57
def Typed (l : List S57) : Prop := ∀ p ∈ l, (-128 ≤ p.f0 ∧ p.f0 ≤ 127) ∧ (-128 ≤ p.f1 ∧ p.f1 ≤ 127) ∧ (-32768 ≤ p.f2 ∧ p.f2 ≤ 32767)
theorem fine_of (x y : Int) (l : List S57) (ht : Typed l) (h : codeIron x y l = 0) : l.length ≤ 8 ∧ Fine l := by
 obtain ⟨_, h8, hp⟩ := code_zero x y l h
 exact ⟨h8, fun p m => okPiece_bd p (ht p m).1 (ht p m).2.1 (ht p m).2.2 (hp p m)⟩
end Go.Proofs.Ythkccaclmodjiaa.I
end
