import Derived.Test.YthkccaclmodjiaazFLateEShort
import Derived.Test.YthkccaclmodjiaazFLateI0
import Derived.Test.YthkccaclmodjiaazFLateI4
import Derived.Test.YthkccaclmodjiaazFLateI1
import Derived.Test.YthkccaclmodjiaazFLateI32
import Derived.Shelf.Abstract
section
namespace Go.Proofs.Ythkccaclmodjiaa.I
open Go.RowKit Go.Proofs.YthkccaclmodjiaaW.PrintWords Go.Proofs.YthkccaclmodjiaaW.PrintLast Go.Proofs.YthkccaclmodjiaaW.PrintMore
attribute [local go_sem] max2_int min2_int max_two min_two max_three min_three max_four min_four   -- for this text's walks alone
set_option linter.unusedVariables false
set_option linter.unusedSimpArgs false
def impl_firstOf.l0 : Nat → List Int → Int → Int → Option (Int)
 | 0, _, _, _ => none
 | k + 1, x5, x6, x7 => if x7 < x6 then (if 0 ≤ x7 then (if x7 < (x5.length : Int) then (if (rd x5 x7) = 0 then (impl_firstOf.l0 k x5 x6 (wrap64 (x7 + 1))) else (some (rd x5 x7))) else (none)) else (none)) else (some 0)
def impl_firstOf.f (k : Nat) (l0 : List Int) : Option (Int) := impl_firstOf.l0 k l0 (l0.length : Int) 0
theorem impl_firstOf.mono_l : ∀ k, (∀ y0 y1 y2, LeO (impl_firstOf.l0 k y0 y1 y2) (impl_firstOf.l0 (k + 1) y0 y1 y2))
 | 0 => fun _ _ _ r h => by simp [impl_firstOf.l0] at h
 | k + 1 => by
  have ih0 := impl_firstOf.mono_l k
  · intro y0 y1 y2
    unfold impl_firstOf.l0
    repeat' first
    | (with_reducible exact ih0 _ _ _)
    | (with_reducible exact LeO.refl _)
    | (with_reducible exact LeO.none _)
    | (with_reducible refine LeO.ite ?_ ?_)
    | (with_reducible refine LeO.bind ?_ (fun _ => ?_))
    | exact ih0 _ _ _
    | exact LeO.none _
    | refine LeO.ite ?_ ?_
    | refine LeO.bind ?_ (fun _ => ?_)
theorem impl_firstOf.mono : ∀ a0 k, LeO (impl_firstOf.f k a0) (impl_firstOf.f (k + 1) a0) := by
 intro a0 k
 have ih0 := impl_firstOf.mono_l k
 unfold impl_firstOf.f
 repeat' first
  | (with_reducible exact ih0 _ _ _)
  | (with_reducible exact LeO.refl _)
  | (with_reducible exact LeO.none _)
  | (with_reducible refine LeO.ite ?_ ?_)
  | (with_reducible refine LeO.bind ?_ (fun _ => ?_))
  | exact ih0 _ _ _
  | exact LeO.none _
  | refine LeO.ite ?_ ?_
  | refine LeO.bind ?_ (fun _ => ?_)
set_option maxHeartbeats 8000000 in
set_option maxRecDepth 100000 in
theorem impl_firstOf.calls (k : Nat) (A0 : Option Addr) (c0 : Nat) (l0 : List Int) (r : Int) (w : World) (hr0 : Kd.C (Kd.int .i64) w A0 l0.length l0) (hc0 : l0.length ≤ c0) (h : impl_firstOf.f k l0 = some r) :
 Calls Try.prog 104 #[.slice A0 l0.length c0] w fun e w' => e = .returned (.int .i64 r) ∧ Drawn0 w w' := by
 have HR0 := Aside0.mk hr0
 have HC0 := Aside0.mk hc0
 clear hr0 hc0
 have H : (impl_firstOf.l0 k l0 (l0.length : Int) 0) = some r := h
 clear h
 have H' := Aside0.mk H
 clear H
 go_enter Try.func104, Try.ntmps104
 go_wp2
 go_loopg [7] k (fun kq v7 w' => ∃ (x7_1 : Int), v7 = .int .i64 x7_1 ∧ Aside0 (impl_firstOf.l0 kq l0 (l0.length : Int) x7_1 = some r) ∧ Aside0 (kq ≤ k) ∧ Drawn0 w w')
 case atStart => exact ⟨(0), (by first | rfl | (simp; done) | (simp [*]; done)), H', ⟨Nat.le_refl _⟩, by repeat (first | exact Drawn0.refl _ | apply Drawn0.step)⟩
 case round =>
  clear H'
  try clear c1
  obtain ⟨x7_1, rfl, HA, HK1, ⟨m1, rfl⟩⟩ := hrel
  cases gk with
  | zero => exact absurd HA.out (by simp [impl_firstOf.l0])
  | succ k1 =>
   have H := HA.out
   clear HA
   simp only [impl_firstOf.l0] at H
   by_cases c2 : x7_1 < (l0.length : Int)
   · rw [if_pos c2] at H
     have c2b0 : decide (x7_1 < (l0.length : Int)) = true := decide_eq_true c2
     clear c2
     by_cases c3 : 0 ≤ x7_1
     · rw [if_pos c3] at H
       have c3b0 : decide (0 ≤ x7_1) = true := decide_eq_true c3
       clear c3
       by_cases c4 : x7_1 < (l0.length : Int)
       · rw [if_pos c4] at H
         have c4b0 : decide (x7_1 < (l0.length : Int)) = true := decide_eq_true c4
         clear c4
         by_cases c5 : (rd l0 x7_1) = 0
         · rw [if_pos c5] at H
           have c5b0 : ((rd l0 x7_1) == 0) = true := beq_iff_eq.mpr c5
           have c5b1 : ((rd l0 x7_1) != 0) = false := bne_eq_false_iff_eq.mpr c5
           clear c5
           have H' := Aside0.mk H
           clear H
           have p176 : 0 ≤ (x7_1 : Int) := dtB
           have q176 : x7_1 < (l0.length : Int) := dtB
           obtain ⟨ad176, e176, hx176_0⟩ := Kd.at_int HR0.out x7_1 p176 q176
           cases e176
           replace p176 := eq_true p176
           replace q176 := eq_true q176
           go_wp2
           go_roundg k1
           case measure => have := HK1.out; omega
           case rel => exact ⟨(wrap64 (x7_1 + 1)), (by first | rfl | (simp; done) | (simp [*]; done)), H', ⟨by have := HK1.out; omega⟩, by repeat (first | exact Drawn0.refl _ | apply Drawn0.step)⟩
         · rw [if_neg c5] at H
           have c5b0 : ((rd l0 x7_1) == 0) = false := beq_eq_false_iff_ne.mpr c5
           have c5b1 : ((rd l0 x7_1) != 0) = true := bne_iff_ne.mpr c5
           obtain rfl := Option.some.inj H
           have p176 : 0 ≤ (x7_1 : Int) := dtB
           have q176 : x7_1 < (l0.length : Int) := dtB
           obtain ⟨ad176, e176, hx176_0⟩ := Kd.at_int HR0.out x7_1 p176 q176
           cases e176
           replace p176 := eq_true p176
           replace q176 := eq_true q176
           go_wp2
           go_ret
           exact ⟨by first | rfl | (simp; done) | (simp [*]; done), by repeat (first | exact Drawn0.refl _ | apply Drawn0.step)⟩
       · rw [if_neg c4] at H
         exact absurd H (by simp)
     · rw [if_neg c3] at H
       exact absurd H (by simp)
   · rw [if_neg c2] at H
     have c2b0 : decide (x7_1 < (l0.length : Int)) = false := decide_eq_false c2
     clear c2
     obtain rfl := Option.some.inj H
     go_wp2
     go_ret
     exact ⟨by first | rfl | (simp; done) | (simp [*]; done), by repeat (first | exact Drawn0.refl _ | apply Drawn0.step)⟩
def impl_unless.f (a0 : Bool) (a1 : Int) : Option (Int) := if a0 = true then (some 0) else (some a1)
set_option maxHeartbeats 8000000 in
set_option maxRecDepth 100000 in
theorem impl_unless.calls (a0 : Bool) (a1 : Int) (r : Int) (w : World) (h : impl_unless.f a0 a1 = some r) :
 Calls Try.prog 105 #[.bool a0, .int .i64 a1] w fun e w' => e = .returned (.int .i64 r) ∧ Drawn0 w w' := by
 have H : (if a0 = true then (some 0) else (some a1)) = some r := h
 clear h
 by_cases c3 : a0 = true
 · subst c3
   have H1 : (some 0) = some r := by rw [if_pos rfl] at H; exact H
   clear H
   have H := H1
   clear H1
   obtain rfl := Option.some.inj H
   go_enter Try.func105, Try.ntmps105
   go_wp2
   go_ret
   exact ⟨by first | rfl | (simp; done) | (simp [*]; done), by repeat (first | exact Drawn0.refl _ | apply Drawn0.step)⟩
 · replace c3 := Bool.eq_false_iff.mpr c3
   subst c3
   have H1 : (some a1) = some r := by rw [if_neg (show ¬ (false = true) by decide)] at H; exact H
   clear H
   have H := H1
   clear H1
   obtain rfl := Option.some.inj H
   go_enter Try.func105, Try.ntmps105
   go_wp2
   go_ret
   exact ⟨by first | rfl | (simp; done) | (simp [*]; done), by repeat (first | exact Drawn0.refl _ | apply Drawn0.step)⟩
end Go.Proofs.Ythkccaclmodjiaa.I
end
section
namespace Go.Proofs.Ythkccaclmodjiaa.I
open Go.RowKit Go.Proofs.YthkccaclmodjiaaW.PrintWords Go.Proofs.YthkccaclmodjiaaW.PrintLast Go.Proofs.YthkccaclmodjiaaW.PrintMore
attribute [local go_sem] max2_int min2_int max_two min_two max_three min_three max_four min_four
set_option linter.unusedVariables false
set_option linter.unusedSimpArgs false
def PredOnP (g : Nat) (lb : Array Value) (p : S57 → Bool) (zs : List S57) (w : World) : Prop :=
 ∀ (W : World) (x : S57), x ∈ zs → Below w.heap.size w W → Calls Try.prog g (#[.agg #[.int .i8 x.f0, .int .i8 x.f1, .int .i16 x.f2]] ++ lb) W fun e w' => e = .returned (.bool (p x)) ∧ Below w.heap.size w w'
def idxQ {α : Type} (p : α → Bool) (zs : List α) : Int := match zs.findIdx? p with
 | some i => (i : Int)
 | none => -1
theorem idxQ_hit {α : Type} (d : α) (p : α → Bool) (zs : List α) (j : Nat) (h : j < zs.length) (hj : p (zs.getD j d) = true) (ho : ∀ i, i < j → p (zs.getD i d) = false) : idxQ p zs = j := by
 have e : zs.findIdx? p = some j := by
  rw [List.findIdx?_eq_some_iff_getElem]
  refine ⟨h, ?_, fun i hi => ?_⟩
  · rw [List.getD_eq_getElem?_getD, List.getElem?_eq_getElem h] at hj
    exact hj
  · have := ho i hi
    rw [List.getD_eq_getElem?_getD, List.getElem?_eq_getElem (Nat.lt_trans hi h)] at this
    simpa using this
 unfold idxQ
 rw [e]
theorem idxQ_miss {α : Type} (d : α) (p : α → Bool) (zs : List α) (ho : ∀ i, i < zs.length → p (zs.getD i d) = false) : idxQ p zs = -1 := by
 have e : zs.findIdx? p = none := by
  rw [List.findIdx?_eq_none_iff]
  intro x hx
  obtain ⟨i, hi, rfl⟩ := List.getElem_of_mem hx
  have := ho i hi
  rw [List.getD_eq_getElem?_getD, List.getElem?_eq_getElem hi] at this
  exact this
 unfold idxQ
 rw [e]
theorem idxQ_any {α : Type} (p : α → Bool) (zs : List α) : decide (0 ≤ idxQ p zs) = zs.any p := by
 unfold idxQ
 cases h : zs.findIdx? p with
 | some i =>
  rw [List.findIdx?_eq_some_iff_getElem] at h
  obtain ⟨hi, hp, _⟩ := h
  have : zs.any p = true := List.any_eq_true.mpr ⟨_, List.getElem_mem hi, hp⟩
  rw [this]
  simp
 | none =>
  rw [List.findIdx?_eq_none_iff] at h
  have : zs.any p = false := by
   rw [List.any_eq_false]
   intro x hx
   simpa using h x hx
  rw [this]
  rfl
theorem rd_T57_mem (zs : List S57) (j : Nat) (h : j < zs.length) : rd_T57 zs (j : Int) ∈ zs := by
 show zs.getD j z57 ∈ zs
 rw [List.getD_eq_getElem?_getD, List.getElem?_eq_getElem h]
 exact List.getElem_mem h
section
set_option maxHeartbeats 8000000 in
set_option maxRecDepth 100000 in
theorem indexFunc_piece (g : Nat) (lb : Array Value) (eg : ∀ args w, (callFunc g args).run Try.prog w = .ok (.enter g args) w) (p : S57 → Bool) (A0 : Option Addr) (c0 : Nat) (l0 : List S57) (w : World)
 (hr0 : Kd.C k57 w A0 l0.length l0) (hp : PredOnP g lb p l0 w) :
 Calls Try.prog 125 #[.slice A0 l0.length c0, .func (.func g) #[] lb] w fun e w' => e = .returned (.int .i64 (idxQ p l0)) ∧ Below w.heap.size w w' := by
 have hu57 := Try.underlying57
 have HM := Kd.C_max hr0
 have HR0 := Aside0.mk hr0
 have HP := Aside0.mk hp
 clear hr0 hp
 go_enter Try.func125, Try.ntmps125
 go_wp2
 go_loopg [5, 8] l0.length (fun gg _ s8 wr => ∃ kk : Nat, kk ≤ l0.length ∧ l0.length - kk ≤ gg ∧ s8 = .int .i64 kk ∧ Aside0 (Below w.heap.size w wr) ∧ Aside0 (∀ j, j < kk → p (l0.getD j z57) = false))
 case atStart => exact ⟨0, Nat.zero_le _, by omega, rfl, ⟨Below.refl _ w⟩, ⟨fun j hj => absurd hj (Nat.not_lt_zero _)⟩⟩
 case round =>
  obtain ⟨kk, hkk, hg, rfl, BW, A⟩ := hrel
  by_cases hlt : kk < l0.length
  · have hltz : (kk : Int) < (l0.length : Int) := by omega
    obtain ⟨ad, e, hx0, hx1, hx2⟩ := at_T57 (Kd.C_below HR0.out BW.out) (kk : Int) (by omega) hltz
    cases e
    have hcall := HP.out wr (rd_T57 l0 (kk : Nat)) (rd_T57_mem l0 kk hlt) BW.out
    simp only [Int.toNat_natCast] at hx0 hx1 hx2
    generalize hy : rd_T57 l0 ((kk : Nat) : Int) = y at hx0 hx1 hx2 hcall
    have B := Aside0.mk (show l0.getD kk z57 = y from hy)
    clear hy
    cases hq : p y with
    | true =>
     rw [hq] at hcall
     go_wp2_with ((with_reducible refine hcall.mono ?_); rintro e w' ⟨rfl, hb'⟩)
     go_ret
     refine ⟨?_, hb'⟩
     rw [idxQ_hit z57 p l0 kk hlt (by rw [B.out]; exact hq) A.out]
     rfl
    | false =>
     rw [hq] at hcall
     go_wp2_with ((with_reducible refine hcall.mono ?_); rintro e w' ⟨rfl, hb'⟩)
     go_roundg (l0.length - (kk + 1))
     case measure => omega
     case rel =>
      refine ⟨kk + 1, by omega, by omega, by go_num, ⟨hb'⟩, ⟨fun j hj => ?_⟩⟩
      by_cases e : j = kk
      · subst e
        rw [B.out]; exact hq
      · exact A.out j (by omega)
  · have hltz : ¬ (kk : Int) < (l0.length : Int) := by omega
    have : kk = l0.length := by omega
    subst this
    go_wp2
    go_ret
    refine ⟨?_, BW.out⟩
    rw [idxQ_miss z57 p l0 A.out]
    rfl
set_option maxHeartbeats 8000000 in
set_option maxRecDepth 100000 in
theorem containsFunc_piece (g : Nat) (lb : Array Value) (eg : ∀ args w, (callFunc g args).run Try.prog w = .ok (.enter g args) w) (p : S57 → Bool) (A0 : Option Addr) (c0 : Nat) (l0 : List S57) (w : World)
 (hr0 : Kd.C k57 w A0 l0.length l0) (hp : PredOnP g lb p l0 w) :
 Calls Try.prog 113 #[.slice A0 l0.length c0, .func (.func g) #[] lb] w fun e w' => e = .returned (.bool (l0.any p)) ∧ Below w.heap.size w w' := by
 rw [← idxQ_any p l0]
 have HR0 := Aside0.mk hr0
 have HP := Aside0.mk hp
 clear hr0 hp
 go_enter Try.func113, Try.ntmps113
 go_wp2_with (go_at_call 125; refine (indexFunc_piece g lb eg p A0 c0 l0 _ HR0.out HP.out).mono ?_; rintro e w' ⟨rfl, hb'⟩)
 go_ret
 exact ⟨rfl, hb'⟩
end
end Go.Proofs.Ythkccaclmodjiaa.I
end
section
namespace Go.Proofs.Ythkccaclmodjiaa.I
open Go.RowKit Go.Proofs.YthkccaclmodjiaaW.PrintWords Go.Proofs.YthkccaclmodjiaaW.PrintLast Go.Proofs.YthkccaclmodjiaaW.PrintMore
attribute [local go_sem] max2_int min2_int max_two min_two max_three min_three max_four min_four
set_option linter.unusedVariables false
set_option linter.unusedSimpArgs false
def okPiece (x : S57) : Bool := decide (1 ≤ wrap64 x.f0) && decide (wrap64 x.f0 ≤ 3) && (decide (1 ≤ wrap64 x.f1) && decide (wrap64 x.f1 ≤ 60)) && (decide (0 ≤ wrap64 x.f2) && decide (wrap64 x.f2 ≤ 1000))
theorem within_f (n a b : Int) : impl_within.f n a b = some (decide (a ≤ n) && decide (n ≤ b)) := by
 unfold impl_within.f
 by_cases h : a ≤ n <;> simp [h]
theorem validPiece_f (x : S57) : impl_ValidPiece.f x.f0 x.f1 x.f2 = some (okPiece x) := by
 unfold impl_ValidPiece.f okPiece
 rw [within_f, within_f, within_f]
 generalize (decide (1 ≤ wrap64 x.f0) && decide (wrap64 x.f0 ≤ 3)) = a
 generalize (decide (1 ≤ wrap64 x.f1) && decide (wrap64 x.f1 ≤ 60)) = b
 generalize (decide (0 ≤ wrap64 x.f2) && decide (wrap64 x.f2 ≤ 1000)) = c
 cases a <;> cases b <;> cases c <;> rfl
set_option maxHeartbeats 8000000 in
set_option maxRecDepth 100000 in
theorem pieceCode_pred (x : S57) (W : World) :
 Calls Try.prog 120 #[.agg #[.int .i8 x.f0, .int .i8 x.f1, .int .i16 x.f2]] W fun e w' => e = .returned (.bool (!okPiece x)) ∧ Below W.heap.size W w' := by
 have hu57 := Try.underlying57
 have hv := Aside0.mk (validPiece_f x)
 cases hq : okPiece x with
 | true =>
  rw [hq] at hv
  go_enter Try.func120, Try.ntmps120
  go_wp2_with (go_at_call 64; (with_reducible refine (impl_ValidPiece.calls x.f0 x.f1 x.f2 true _ hv.out).mono ?_); rintro e w' ⟨rfl, hb'⟩)
  go_ret
  exact ⟨rfl, below_step ((Below.refl _ _).alloc (Nat.le_refl _) _) hb'⟩
 | false =>
  rw [hq] at hv
  go_enter Try.func120, Try.ntmps120
  go_wp2_with (go_at_call 64; (with_reducible refine (impl_ValidPiece.calls x.f0 x.f1 x.f2 false _ hv.out).mono ?_); rintro e w' ⟨rfl, hb'⟩)
  go_ret
  exact ⟨rfl, below_step ((Below.refl _ _).alloc (Nat.le_refl _) _) hb'⟩
def impl_pieceCode.f (k : Nat) (l0 : List (S57)) : Option (Int) := (some (l0.any fun x => !okPiece x)).bind fun t135 => ((impl_unless.f (!t135) 1).bind fun t136 => ((impl_unless.f (decide ((l0.length : Int) ≤ 8)) 3).bind fun t137 => ((impl_firstOf.f k (([t136, t137] : List Int))).bind fun t141 => (some t141))))
theorem impl_pieceCode.mono : ∀ a0 k, LeO (impl_pieceCode.f k a0) (impl_pieceCode.f (k + 1) a0) := by
 intro a0 k
 unfold impl_pieceCode.f
 repeat' first
  | (with_reducible exact impl_firstOf.mono _ _)
  | (with_reducible exact LeO.refl _)
  | (with_reducible exact LeO.none _)
  | (with_reducible refine LeO.ite ?_ ?_)
  | (with_reducible refine LeO.bind ?_ (fun _ => ?_))
  | exact impl_firstOf.mono _ _
  | exact LeO.none _
  | refine LeO.ite ?_ ?_
  | refine LeO.bind ?_ (fun _ => ?_)
set_option maxHeartbeats 8000000 in
set_option maxRecDepth 100000 in
theorem impl_pieceCode.calls (k : Nat) (A0 : Option Addr) (c0 : Nat) (l0 : List (S57)) (r : Int) (w : World) (hr0 : Kd.C k57 w A0 l0.length l0) (hc0 : l0.length ≤ c0) (h : impl_pieceCode.f k l0 = some r) :
 Calls Try.prog 106 #[.slice A0 l0.length c0] w fun e w' => e = .returned (.int .i64 r) ∧ Below w.heap.size w w' := by
 have HR0 := Aside0.mk hr0
 have HC0 := Aside0.mk hc0
 clear hr0 hc0
 have HB := Aside0.mk (Below.refl w.heap.size w)
 have eg : ∀ args w, (callFunc 120 args).run Try.prog w = .ok (.enter 120 args) w := enters_of Try.func120 (by kernel_rfl) rfl
 have HC := Aside0.mk (fun (W : World) (hb : Below w.heap.size w W) => containsFunc_piece 120 #[] eg (fun x => !okPiece x) A0 c0 l0 W (Kd.C_below HR0.out hb) (fun W' x _ hb' => (pieceCode_pred x W').mono fun e w' ⟨he, hd⟩ => ⟨he, below_step hb' hd⟩))
 have H : ((some (l0.any fun x => !okPiece x)).bind fun t135 => ((impl_unless.f (!t135) 1).bind fun t136 => ((impl_unless.f (decide ((l0.length : Int) ≤ 8)) 3).bind fun t137 => ((impl_firstOf.f k (([t136, t137] : List Int))).bind fun t141 => (some t141))))) = some r := h
 clear h
 replace H := Option.bind_eq_some_iff.mp H
 obtain ⟨t135, A20, H⟩ := H
 replace H : ((impl_unless.f (!t135) 1).bind fun t136 => ((impl_unless.f (decide ((l0.length : Int) ≤ 8)) 3).bind fun t137 => ((impl_firstOf.f k (([t136, t137] : List Int))).bind fun t141 => (some t141)))) = some r := H
 have A2 := Aside0.mk A20
 clear A20
 have e135 := Option.some.inj A2.out
 rw [e135] at HC
 replace H := Option.bind_eq_some_iff.mp H
 obtain ⟨t136, A30, H⟩ := H
 replace H : ((impl_unless.f (decide ((l0.length : Int) ≤ 8)) 3).bind fun t137 => ((impl_firstOf.f k (([t136, t137] : List Int))).bind fun t141 => (some t141))) = some r := H
 have A3 := Aside0.mk A30
 clear A30
 replace H := Option.bind_eq_some_iff.mp H
 obtain ⟨t137, A40, H⟩ := H
 replace H : ((impl_firstOf.f k (([t136, t137] : List Int))).bind fun t141 => (some t141)) = some r := H
 have A4 := Aside0.mk A40
 clear A40
 obtain ⟨y138, hy138⟩ : ∃ y_ : List Int, y_ = (([t136, t137] : List Int)) := ⟨_, rfl⟩
 replace H : ((impl_firstOf.f k y138).bind fun t141 => (some t141)) = some r := by first | (rw [hy138]; with_reducible exact H) | (have H2_ := (Option.bind_some _ _).symm.trans H; rw [hy138]; with_reducible exact H2_) | (have H2_ := (Option.bind_some _ _).symm.trans H; with_reducible exact H2_) | with_reducible exact H | (rw [hy138]; exact H) | exact H
 have Ny138 := Aside0.mk hy138
 clear hy138
 replace H := Option.bind_eq_some_iff.mp H
 obtain ⟨t141, A50, H⟩ := H
 replace H : (some t141) = some r := H
 have A5 := Aside0.mk A50
 clear A50
 obtain rfl := Option.some.inj H
 go_enter Try.func106, Try.ntmps106
 go_wp2_with (first | ((with_reducible refine gate_callee (f := 113) rfl ?_); refine goesL_ (some 4) rfl rfl Try.func113 (by kernel_rfl) rfl #[.slice A0 l0.length c0, .func (.func 120) #[] #[]] rfl (by (try simp only [List.map_toArray, List.map_cons, List.map_nil]); first | done | rfl | (simp only [List.length_drop, List.length_take]; rfl)) ?_; refine (HC.out _ (blB HB)).mono ?_; rintro e w' ⟨rfl, hb'⟩; refine ⟨_, rfl, ?_⟩; have n0_ := Aside0.mk (below_step (blB HB) hb'); clear HB; have HB := n0_; clear n0_ hb') | ((with_reducible refine gate_callee (f := 105) rfl ?_); refine goesL_ (some 6) rfl rfl Try.func105 (by kernel_rfl) rfl #[.bool (!t135), .int .i64 1] rfl (by (try simp only [List.map_toArray, List.map_cons, List.map_nil]); first | done | rfl | (simp only [List.length_drop, List.length_take]; rfl)) ?_; (with_reducible refine (impl_unless.calls (!t135) 1 t136 _ A3.out).mono ?_); rintro e w' ⟨rfl, ⟨nd, rfl⟩⟩; refine ⟨_, rfl, ?_⟩) | ((with_reducible refine gate_callee (f := 105) rfl ?_); refine goesL_ (some 10) rfl rfl Try.func105 (by kernel_rfl) rfl #[.bool (decide ((l0.length : Int) ≤ 8)), .int .i64 3] rfl (by (try simp only [List.map_toArray, List.map_cons, List.map_nil]); first | done | rfl | (simp only [List.length_drop, List.length_take]; rfl)) ?_; (with_reducible refine (impl_unless.calls (decide ((l0.length : Int) ≤ 8)) 3 t137 _ A4.out).mono ?_); rintro e w' ⟨rfl, ⟨nd, rfl⟩⟩; refine ⟨_, rfl, ?_⟩) | ((with_reducible refine gate_dst (N := 11) rfl ?_); refine Kd.R_lit (Kd.int .i64) _ 2 ?hg (N := 11) ?hd (xs := ([t136, t137] : List Int)) (inner := [.int .i64 t136, .int .i64 t137]) (ok := fun _ => True) (okp := fun _ => True) ?hr ?hp (fun _ hk => hk) trivial (Below.refl _ _) (Nat.le_refl _) (by simp) ?_; (case hd => rfl); (case hg => rfl); (case hr => first | (go_simp; done) | (go_simp; rfl)); (case hp => exact (Reps.one (show Kd.M (Kd.int .i64) _ _ _ t136 [.int .i64 t136] from rfl) (Reps.one (show Kd.M (Kd.int .i64) _ _ _ t137 [.int .i64 t137] from rfl) (Reps.none _ _)))); intro v139 w6 ho7 hb hg_ hnew_; clear hg_ hnew_; (first | rw [← Ny138.out] at ho7 | (simp only [Int.reduceToNat] at ho7; rw [← Ny138.out] at ho7)); have n0_ := Aside0.mk (Kd.R_lower ho7 (below_size (blB HB))); have n1_ := Aside0.mk (below_step (blB HB) hb); clear HB; have HO140 := n0_; have HB := n1_; clear n0_ n1_; clear hb ho7; obtain ⟨Ao8, co8, eo8⟩ := Kd.R_slice HO140.out; subst eo8) | ((with_reducible refine gate_callee (f := 104) rfl ?_); refine goesL_ (some 12) rfl rfl Try.func104 (by kernel_rfl) rfl #[.slice Ao8 y138.length co8] rfl (by (try simp only [List.map_toArray, List.map_cons, List.map_nil]); first | done | rfl | (simp only [List.length_drop, List.length_take]; rfl)) ?_; (with_reducible refine (impl_firstOf.calls k _ _ y138 t141 _ ?side1 ?side2 A5.out).mono ?_); (case side1 => exact cvC ((Kd.R_reads' HO140.out).2.2)); (case side2 => exact (Kd.R_reads' HO140.out).2.1); rintro e w' ⟨rfl, ⟨nd, rfl⟩⟩; refine ⟨_, rfl, ?_⟩))
 go_ret
 exact ⟨by first | rfl | (simp [errW_none, errW_some] <;> rfl) | (simp [*, errW_none, errW_some] <;> rfl), blB HB⟩
end Go.Proofs.Ythkccaclmodjiaa.I
end
