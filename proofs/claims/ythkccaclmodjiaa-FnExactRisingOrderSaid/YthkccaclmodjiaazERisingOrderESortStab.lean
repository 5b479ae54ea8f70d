import Derived.Test.YthkccaclmodjiaazERisingOrderI0
import Derived.Test.YthkccaclmodjiaazERisingOrderELayI
import Derived.Shelf.SlSortCmp.Insertion1
import Derived.Lib.SlKeysI
namespace Go.Proofs.Ythkccaclmodjiaa.I
open Go.RowKit Go.Proofs.YthkccaclmodjiaaW.PrintWords Go.Proofs.YthkccaclmodjiaaW.PrintLast Go.Proofs.YthkccaclmodjiaaW.PrintMore
attribute [local go_sem] max2_int min2_int max_two min_two max_three min_three max_four min_four
set_option linter.unusedVariables false
set_option linter.unusedSimpArgs false
open Go.Sort Go.Shelf Go.Lib
def encF {n : Nat} (x : Fin n) : Value := .int .i64 (x.1 : Int)
def dF (n : Nat) : Array (Fin n) := Array.ofFn (fun i : Fin n => i)
theorem dF_size (n : Nat) : (dF n).size = n := by simp [dF]
theorem butOne_sort {α : Type} [Inhabited α] (enc : α → Value) (W : World) (gb off m : Nat) (dk : Array α) (os : Array Obj) : W.grownBy (sortWorld enc W gb off m dk os) (some gb) := by
  unfold sortWorld
  refine ⟨rfl, rfl, rfl, by simp [putRow, mapBlock, Sort.ahead, grow], fun k hk hne => ?_⟩
  rw [Go.Sort.heap_grow_old _ _ (by simpa [putRow, mapBlock, Sort.ahead] using hk)]
  have : gb ≠ k := fun e => hne (by rw [e])
  simp [putRow, mapBlock, Sort.ahead, Array.getElem?_modify, this]
def CmpOn (g : Nat) (cb : Array Value) (cf : Nat → Nat → Int) (n gb : Nat) (W : World) : Prop :=
  ∀ (i j : Nat), i < n → j < n → ∀ W', W.grownBy W' (some gb) → Calls Try.prog g (#[.int .i64 (i : Int), .int .i64 (j : Int)] ++ cb) W' fun e w' => e = .returned (.int .i64 (cf i j)) ∧ ∃ q os, w' = grow (W'.drewN q) os
set_option maxHeartbeats 4000000 in
set_option maxRecDepth 100000 in
theorem stable_some (m : Nat) (hm : m + 1 ≤ 19) (g : Nat) (cb : Array Value) (eg : ∀ args w, (callFunc g args).run Try.prog w = .ok (.enter g args) w) (cf : Nat → Nat → Int) (gb cap : Nat) (W : World) (hgl : gb < W.heap.size)
    (hH : Holds (encF (n := m + 1)) W gb 0 (dF (m + 1))) (hc : CmpOn g cb cf (m + 1) gb W) :
    Calls Try.prog 111 #[.slice (some ⟨gb, 0, none⟩) (m + 1) cap, .func (.func g) #[] cb] W fun e w' => e = .returned (.tuple #[]) ∧ SW (encF (n := m + 1)) W gb 0 (Sort.insertionSort (ltOf fun a b : Fin (m + 1) => cf a.1 b.1) (dF (m + 1)) 0 (m + 1)) w' := by
  have hs : (dF (m + 1)).size = m + 1 := dF_size _
  have hcmp : CmpLays1 Try.prog g cb (encF (n := m + 1)) (fun a b => cf a.1 b.1) gb 0 (dF (m + 1)).size W := fun q os dk _ x y => hc x.1 y.1 x.2 y.2 _ (butOne_sort _ _ _ _ _ _ _)
  have hi := Any.insertionSortCmpFunc_s Try.insA (encF (n := m + 1)) (fun a b => cf a.1 b.1) g cb gb 0 cap 0 (m + 1) (dF (m + 1)) (dF (m + 1)) W W eg hcmp ⟨fun _ => rfl, hH, hgl⟩ rfl (SW.start hH) (Nat.zero_le _) (by rw [hs]; exact Nat.le_refl _) (by rw [hs]; omega)
  rw [hs] at hi
  have hi2 : Calls Try.prog 131 #[.slice (some ⟨gb, 0, none⟩) (m + 1) cap, .int .i64 0, .int .i64 ((m : Int) + 1), .func (.func g) #[] cb] W (fun e w' => e = .returned (.tuple #[]) ∧ SW (encF (n := m + 1)) W gb 0 (Sort.insertionSort (ltOf fun a b : Fin (m + 1) => cf a.1 b.1) (dF (m + 1)) 0 (m + 1)) w') := hi
  generalize Sort.insertionSort (ltOf fun a b : Fin (m + 1) => cf a.1 b.1) (dF (m + 1)) 0 (m + 1) = R at hi2 ⊢
  clear hi hc hcmp hH hs
  have b1 : ¬ ((20 : Int) ≤ (m : Int) + 1) := by omega
  have b2 : ¬ ((20 : Int) < (m : Int) + 1) := by omega
  have hst : Calls Try.prog 124 #[.slice (some ⟨gb, 0, none⟩) (m + 1) cap, .int .i64 ((m : Int) + 1), .func (.func g) #[] cb] W (fun e w' => e = .returned (.tuple #[]) ∧ SW (encF (n := m + 1)) W gb 0 R w') := by
    go_enter Try.func124, Try.ntmps124
    go_wp2
    refine wp_loop_rounds 1 ?_
    rw [rounds_succ]
    go_wp2_with (go_at_call 131; refine hi2.mono ?_; rintro e w' ⟨rfl, hw⟩)
    refine wp_loop_rounds 1 ?_
    rw [rounds_succ]
    go_wp2
    go_end0
    exact ⟨rfl, hw⟩
  go_enter Try.func111, Try.ntmps111
  go_wp2_with (go_at_call 124; refine hst.mono ?_; rintro e w' ⟨rfl, hw⟩)
  go_end0
  exact ⟨rfl, hw⟩
set_option maxHeartbeats 4000000 in
set_option maxRecDepth 100000 in
theorem stable_none (g : Nat) (cb : Array Value) (A : Option Addr) (cap : Nat) (W : World) :
    Calls Try.prog 111 #[.slice A 0 cap, .func (.func g) #[] cb] W fun e w' => e = .returned (.tuple #[]) ∧ w' = W := by
  have hi2 : Calls Try.prog 131 #[.slice A 0 cap, .int .i64 0, .int .i64 0, .func (.func g) #[] cb] W (fun e w' => e = .returned (.tuple #[]) ∧ w' = W) := by
    go_enter Try.func131, Try.ntmps131
    go_wp2
    refine wp_loop_rounds 1 ?_
    rw [rounds_succ]
    go_wp2
    go_end0
    exact ⟨rfl, rfl⟩
  have hst : Calls Try.prog 124 #[.slice A 0 cap, .int .i64 0, .func (.func g) #[] cb] W (fun e w' => e = .returned (.tuple #[]) ∧ w' = W) := by
    go_enter Try.func124, Try.ntmps124
    go_wp2
    refine wp_loop_rounds 1 ?_
    rw [rounds_succ]
    go_wp2_with (go_at_call 131; refine hi2.mono ?_; rintro e w' ⟨rfl, rfl⟩)
    refine wp_loop_rounds 1 ?_
    rw [rounds_succ]
    go_wp2
    go_end0
    exact ⟨rfl, rfl⟩
  go_enter Try.func111, Try.ntmps111
  go_wp2_with (go_at_call 124; refine hst.mono ?_; rintro e w' ⟨rfl, rfl⟩)
  go_end0
  exact ⟨rfl, rfl⟩
def insR {α : Type} (lt : α → α → Bool) (x : α) : List α → List α → List α
  | [], S => x :: S
  | y :: P, S => if lt x y = true then insR lt x P (y :: S) else P.reverse ++ y :: x :: S
theorem swp_lists {α : Type} [Inhabited α] (P S : List α) (x y : α) (d : Array α) (h : d.toList = P ++ y :: x :: S) : (swp d (P.length + 1) P.length).toList = P ++ x :: y :: S := by
  have hs : d = (P ++ y :: x :: S).toArray := by rw [← h]
  subst hs
  apply List.ext_getElem?
  intro k
  simp [swp, Array.getElem?_setIfInBounds, List.getElem?_append, List.getElem?_cons]
theorem insInner_list {α : Type} [Inhabited α] (lt : α → α → Bool) : ∀ (R : List α) (S : List α) (x : α) (d : Array α), d.toList = R.reverse ++ x :: S → (insInner lt 0 R.length d).toList = insR lt x R S
  | [], S, x, d, h => by rw [List.length_nil, insInner, insR]; exact h
  | y :: R, S, x, d, h => by
    have h' : d.toList = R.reverse ++ y :: x :: S := by rw [h, List.reverse_cons, List.append_assoc]; rfl
    have e1 : d[R.length + 1]! = x := by
      have : d = (R.reverse ++ y :: x :: S).toArray := by rw [← h']
      subst this
      simp
    have e2 : d[R.length]! = y := by
      have : d = (R.reverse ++ y :: x :: S).toArray := by rw [← h']
      subst this
      simp
    rw [List.length_cons, insInner, e1, e2, insR]
    by_cases c : lt x y = true
    · rw [if_pos c, if_pos (by rw [c]; simp)]
      refine insInner_list lt R (y :: S) x _ ?_
      have := swp_lists R.reverse S x y d h'
      rw [List.length_reverse] at this
      exact this
    · rw [if_neg c, if_neg (by simpa using c)]
      exact h'
end Go.Proofs.Ythkccaclmodjiaa.I
