import Derived.Test.YthkccaclmodjiaazFLateI0
import Derived.Test.YthkccaclmodjiaazFLateELayI
import Derived.Shelf.SlSortCmp.Insertion1
import Derived.Lib.SlKeysI
import Derived.Test.YthkccaclmodjiaazFLateELayS
import Derived.Test.YthkccaclmodjiaazFLateI12
section
namespace Go.Proofs.Ythkccaclmodjiaa.I
open Go.RowKit Go.Proofs.YthkccaclmodjiaaW.PrintWords Go.Proofs.YthkccaclmodjiaaW.PrintLast Go.Proofs.YthkccaclmodjiaaW.PrintMore
attribute [local go_sem] max2_int min2_int max_two min_two max_three min_three max_four min_four
set_option linter.unusedVariables false
set_option linter.unusedSimpArgs false
open Go.Sort Go.Shelf Go.Lib
def encF {n : Nat} (x : Fin n) : Value := .int .i64 (x.1 : Int)
def dF (n : Nat) : Array (Fin n) := Array.ofFn (fun i : Fin n => i)
theorem dF_size (n : Nat) : (dF n).size = n := by simp [dF]
theorem butOne_sort {α : Type} [Inhabited α] (enc : α → Value) (W : World) (gb off m : Nat) (dk : Array α) (os : Array Obj) : W.grownBy (sortWorld enc W gb off m dk os) (some gb) := by
 unfold sortWorld
 refine ⟨rfl, rfl, rfl, by simp [putRow, mapBlock, Sort.ahead, grow], fun k hk hne => ?_⟩
 rw [Go.Sort.heap_grow_old _ _ (by simpa [putRow, mapBlock, Sort.ahead] using hk)]
 have : gb ≠ k := fun e => hne (by rw [e])
 simp [putRow, mapBlock, Sort.ahead, Array.getElem?_modify, this]
def CmpOn (g : Nat) (cb : Array Value) (cf : Nat → Nat → Int) (n gb : Nat) (W : World) : Prop :=
 ∀ (i j : Nat), i < n → j < n → ∀ W', W.grownBy W' (some gb) → Calls Try.prog g (#[.int .i64 (i : Int), .int .i64 (j : Int)] ++ cb) W' fun e w' => e = .returned (.int .i64 (cf i j)) ∧ ∃ q os, w' = grow (W'.drewN q) os
set_option maxHeartbeats 4000000 in
set_option maxRecDepth 100000 in
theorem stable_some (m : Nat) (hm : m + 1 ≤ 19) (g : Nat) (cb : Array Value) (eg : ∀ args w, (callFunc g args).run Try.prog w = .ok (.enter g args) w) (cf : Nat → Nat → Int) (gb cap : Nat) (W : World) (hgl : gb < W.heap.size)
 (hH : Holds (encF (n := m + 1)) W gb 0 (dF (m + 1))) (hc : CmpOn g cb cf (m + 1) gb W) :
 Calls Try.prog 111 #[.slice (some ⟨gb, 0, none⟩) (m + 1) cap, .func (.func g) #[] cb] W fun e w' => e = .returned (.tuple #[]) ∧ SW (encF (n := m + 1)) W gb 0 (Sort.insertionSort (ltOf fun a b : Fin (m + 1) => cf a.1 b.1) (dF (m + 1)) 0 (m + 1)) w' := by
 have hs : (dF (m + 1)).size = m + 1 := dF_size _
 have hcmp : CmpLays1 Try.prog g cb (encF (n := m + 1)) (fun a b => cf a.1 b.1) gb 0 (dF (m + 1)).size W := fun q os dk _ x y => hc x.1 y.1 x.2 y.2 _ (butOne_sort _ _ _ _ _ _ _)
 have hi := Any.insertionSortCmpFunc_s Try.insA (encF (n := m + 1)) (fun a b => cf a.1 b.1) g cb gb 0 cap 0 (m + 1) (dF (m + 1)) (dF (m + 1)) W W eg hcmp ⟨fun _ => rfl, hH, hgl⟩ rfl (SW.start hH) (Nat.zero_le _) (by rw [hs]; exact Nat.le_refl _) (by rw [hs]; omega)
 rw [hs] at hi
 have hi2 : Calls Try.prog 131 #[.slice (some ⟨gb, 0, none⟩) (m + 1) cap, .int .i64 0, .int .i64 ((m : Int) + 1), .func (.func g) #[] cb] W (fun e w' => e = .returned (.tuple #[]) ∧ SW (encF (n := m + 1)) W gb 0 (Sort.insertionSort (ltOf fun a b : Fin (m + 1) => cf a.1 b.1) (dF (m + 1)) 0 (m + 1)) w') := hi
 generalize Sort.insertionSort (ltOf fun a b : Fin (m + 1) => cf a.1 b.1) (dF (m + 1)) 0 (m + 1) = R at hi2 ⊢
 clear hi hc hcmp hH hs
 have b1 : ¬ ((20 : Int) ≤ (m : Int) + 1) := by omega
 have b2 : ¬ ((20 : Int) < (m : Int) + 1) := by omega
 have hst : Calls Try.prog 124 #[.slice (some ⟨gb, 0, none⟩) (m + 1) cap, .int .i64 ((m : Int) + 1), .func (.func g) #[] cb] W (fun e w' => e = .returned (.tuple #[]) ∧ SW (encF (n := m + 1)) W gb 0 R w') := by
  go_enter Try.func124, Try.ntmps124
  go_wp2
  refine wp_loop_rounds 1 ?_
  rw [rounds_succ]
  go_wp2_with (go_at_call 131; refine hi2.mono ?_; rintro e w' ⟨rfl, hw⟩)
  refine wp_loop_rounds 1 ?_
  rw [rounds_succ]
  go_wp2
  go_end0
  exact ⟨rfl, hw⟩
 go_enter Try.func111, Try.ntmps111
 go_wp2_with (go_at_call 124; refine hst.mono ?_; rintro e w' ⟨rfl, hw⟩)
 go_end0
 exact ⟨rfl, hw⟩
set_option maxHeartbeats 4000000 in
set_option maxRecDepth 100000 in
theorem stable_none (g : Nat) (cb : Array Value) (A : Option Addr) (cap : Nat) (W : World) :
 Calls Try.prog 111 #[.slice A 0 cap, .func (.func g) #[] cb] W fun e w' => e = .returned (.tuple #[]) ∧ w' = W := by
 have hi2 : Calls Try.prog 131 #[.slice A 0 cap, .int .i64 0, .int .i64 0, .func (.func g) #[] cb] W (fun e w' => e = .returned (.tuple #[]) ∧ w' = W) := by
  go_enter Try.func131, Try.ntmps131
  go_wp2
  refine wp_loop_rounds 1 ?_
  rw [rounds_succ]
  go_wp2
  go_end0
  exact ⟨rfl, rfl⟩
 have hst : Calls Try.prog 124 #[.slice A 0 cap, .int .i64 0, .func (.func g) #[] cb] W (fun e w' => e = .returned (.tuple #[]) ∧ w' = W) := by
  go_enter Try.func124, Try.ntmps124
  go_wp2
  refine wp_loop_rounds 1 ?_
  rw [rounds_succ]
  go_wp2_with (go_at_call 131; refine hi2.mono ?_; rintro e w' ⟨rfl, rfl⟩)
  refine wp_loop_rounds 1 ?_
  rw [rounds_succ]
  go_wp2
  go_end0
  exact ⟨rfl, rfl⟩
 go_enter Try.func111, Try.ntmps111
 go_wp2_with (go_at_call 124; refine hst.mono ?_; rintro e w' ⟨rfl, rfl⟩)
 go_end0
 exact ⟨rfl, rfl⟩
def insR {α : Type} (lt : α → α → Bool) (x : α) : List α → List α → List α
 | [], S => x :: S
 | y :: P, S => if lt x y = true then insR lt x P (y :: S) else P.reverse ++ y :: x :: S
theorem swp_lists {α : Type} [Inhabited α] (P S : List α) (x y : α) (d : Array α) (h : d.toList = P ++ y :: x :: S) : (swp d (P.length + 1) P.length).toList = P ++ x :: y :: S := by
 have hs : d = (P ++ y :: x :: S).toArray := by rw [← h]
 subst hs
 apply List.ext_getElem?
 intro k
 simp [swp, Array.getElem?_setIfInBounds, List.getElem?_append, List.getElem?_cons]
theorem insInner_list {α : Type} [Inhabited α] (lt : α → α → Bool) : ∀ (R : List α) (S : List α) (x : α) (d : Array α), d.toList = R.reverse ++ x :: S → (insInner lt 0 R.length d).toList = insR lt x R S
 | [], S, x, d, h => by rw [List.length_nil, insInner, insR]; exact h
 | y :: R, S, x, d, h => by
  have h' : d.toList = R.reverse ++ y :: x :: S := by rw [h, List.reverse_cons, List.append_assoc]; rfl
  have e1 : d[R.length + 1]! = x := by
   have : d = (R.reverse ++ y :: x :: S).toArray := by rw [← h']
   subst this
   simp
  have e2 : d[R.length]! = y := by
   have : d = (R.reverse ++ y :: x :: S).toArray := by rw [← h']
   subst this
   simp
  rw [List.length_cons, insInner, e1, e2, insR]
  by_cases c : lt x y = true
  · rw [if_pos c, if_pos (by rw [c]; simp)]
    refine insInner_list lt R (y :: S) x _ ?_
    have := swp_lists R.reverse S x y d h'
    rw [List.length_reverse] at this
    exact this
  · rw [if_neg c, if_neg (by simpa using c)]
    exact h'
end Go.Proofs.Ythkccaclmodjiaa.I
end
section
namespace Go.Proofs.Ythkccaclmodjiaa.I
open Go.RowKit Go.Proofs.YthkccaclmodjiaaW.PrintWords Go.Proofs.YthkccaclmodjiaaW.PrintLast Go.Proofs.YthkccaclmodjiaaW.PrintMore
attribute [local go_sem] max2_int min2_int max_two min_two max_three min_three max_four min_four
set_option linter.unusedVariables false
set_option linter.unusedSimpArgs false
open Go.Sort Go.Shelf Go.Lib
theorem insR_append {α : Type} (lt : α → α → Bool) (x : α) : ∀ (R S : List α), insR lt x R S = insR lt x R [] ++ S
 | [], S => rfl
 | y :: R, S => by
  rw [insR, insR]
  by_cases c : lt x y = true
  · rw [if_pos c, if_pos c, insR_append lt x R (y :: S), insR_append lt x R [y], List.append_assoc]
    rfl
  · rw [if_neg c, if_neg c, List.append_assoc]
    rfl
theorem insR_len {α : Type} (lt : α → α → Bool) (x : α) : ∀ (R S : List α), (insR lt x R S).length = R.length + 1 + S.length
 | [], S => by rw [insR]; simp; omega
 | y :: R, S => by
  rw [insR]
  by_cases c : lt x y = true
  · rw [if_pos c, insR_len lt x R (y :: S)]; simp; omega
  · rw [if_neg c]; simp; omega
theorem insR_map {α β : Type} (f : α → β) (lt : α → α → Bool) (lt' : β → β → Bool) (h : ∀ a b, lt a b = lt' (f a) (f b)) (x : α) : ∀ (R S : List α), (insR lt x R S).map f = insR lt' (f x) (R.map f) (S.map f)
 | [], S => rfl
 | y :: R, S => by
  rw [insR, List.map_cons, insR, ← h]
  by_cases c : lt x y = true
  · rw [if_pos c, if_pos c, insR_map f lt lt' h x R (y :: S)]
    rfl
  · rw [if_neg c, if_neg c, List.map_append, List.map_reverse]
    rfl
def isortFrom {α : Type} (lt : α → α → Bool) : List α → List α → List α
 | P, [] => P
 | P, x :: r => isortFrom lt (insR lt x P.reverse []) r
theorem isortFrom_map {α β : Type} (f : α → β) (lt : α → α → Bool) (lt' : β → β → Bool) (h : ∀ a b, lt a b = lt' (f a) (f b)) : ∀ (r P : List α), (isortFrom lt P r).map f = isortFrom lt' (P.map f) (r.map f)
 | [], P => rfl
 | x :: r, P => by
  rw [isortFrom, isortFrom_map f lt lt' h r, List.map_cons, isortFrom, insR_map f lt lt' h, List.map_reverse]
  rfl
theorem insOuter_list {α : Type} [Inhabited α] (lt : α → α → Bool) (b : Nat) : ∀ (r P : List α) (d : Array α), d.toList = P ++ r → P.length + r.length = b → (insOuter lt 0 b P.length d).toList = isortFrom lt P r
 | [], P, d, h, hb => by
  rw [insOuter, if_neg (by simp at hb; omega), isortFrom, h, List.append_nil]
 | x :: r, P, d, h, hb => by
  rw [List.length_cons] at hb
  rw [insOuter, if_pos (by omega), isortFrom]
  have e := insInner_list lt P.reverse r x d (by rw [List.reverse_reverse]; exact h)
  rw [List.length_reverse, insR_append] at e
  have hl : (insR lt x P.reverse []).length = P.length + 1 := by rw [insR_len, List.length_reverse]; rfl
  have ih := insOuter_list lt b r (insR lt x P.reverse []) (insInner lt 0 P.length d) e (by omega)
  rw [hl] at ih
  exact ih
theorem insertionSort_list {α : Type} [Inhabited α] (lt : α → α → Bool) (d : Array α) (x : α) (r : List α) (h : d.toList = x :: r) : (Sort.insertionSort lt d 0 d.size).toList = isortFrom lt [] (x :: r) := by
 have hs : d.size = r.length + 1 := by
  have : d.toList.length = r.length + 1 := by rw [h]; rfl
  rw [← this]; rfl
 unfold Sort.insertionSort
 have := insOuter_list lt d.size r [x] d h (by rw [hs]; simp; omega)
 exact this
theorem dF_list (m : Nat) : ∃ (x : Fin (m + 1)) (r : List (Fin (m + 1))), (dF (m + 1)).toList = x :: r ∧ (x :: r).map (fun x => (x.1 : Int)) = iota (m + 1) := by
 have e : ((dF (m + 1)).toList).map (fun x : Fin (m + 1) => (x.1 : Int)) = iota (m + 1) := by
  apply List.ext_getElem
  · simp [dF, iota_len]
  · intro i h1 h2
    rw [iota_get, List.getElem_map]
    simp only [dF, Array.getElem_toList, Array.getElem_ofFn]
 cases h : (dF (m + 1)).toList with
 | nil =>
  have := dF_size (m + 1)
  have : ((dF (m + 1)).toList).length = m + 1 := this
  rw [h] at this
  cases this
 | cons x r =>
  rw [h] at e
  exact ⟨x, r, rfl, e⟩
def byLt (lt : Int → Int → Bool) (n : Nat) : List Int := isortFrom lt [] (iota n)
theorem sorted_fin (m : Nat) (lt : Fin (m + 1) → Fin (m + 1) → Bool) (lt' : Int → Int → Bool) (h : ∀ a b : Fin (m + 1), lt a b = lt' (a.1 : Int) (b.1 : Int)) :
 (Sort.insertionSort lt (dF (m + 1)) 0 (m + 1)).toList.map (fun x => (x.1 : Int)) = byLt lt' (m + 1) := by
 obtain ⟨x, r, h1, h2⟩ := dF_list m
 have := insertionSort_list lt (dF (m + 1)) x r h1
 rw [dF_size] at this
 rw [this, isortFrom_map (fun x : Fin (m + 1) => (x.1 : Int)) lt lt' h, h2]
 rfl
theorem isortFrom_len {α : Type} (lt : α → α → Bool) : ∀ (r P : List α), (isortFrom lt P r).length = P.length + r.length
 | [], P => rfl
 | x :: r, P => by rw [isortFrom, isortFrom_len lt r, insR_len]; simp; omega
theorem byLt_len (lt : Int → Int → Bool) (n : Nat) : (byLt lt n).length = n := by rw [byLt, isortFrom_len, iota_len]; simp
theorem insR_mem {α : Type} (lt : α → α → Bool) (x z : α) : ∀ (R S : List α), z ∈ insR lt x R S → z = x ∨ z ∈ R ∨ z ∈ S
 | [], S, h => by rw [insR] at h; rcases List.mem_cons.mp h with h | h <;> simp [h]
 | y :: R, S, h => by
  rw [insR] at h
  by_cases c : lt x y = true
  · rw [if_pos c] at h
    rcases insR_mem lt x z R (y :: S) h with h | h | h
    · exact .inl h
    · exact .inr (.inl (by simp [h]))
    · rcases List.mem_cons.mp h with h | h
      · exact .inr (.inl (by simp [h]))
      · exact .inr (.inr h)
  · rw [if_neg c] at h
    simp only [List.mem_append, List.mem_reverse, List.mem_cons] at h
    rcases h with h | h | h | h
    · exact .inr (.inl (by simp [h]))
    · exact .inr (.inl (by simp [h]))
    · exact .inl h
    · exact .inr (.inr h)
theorem isortFrom_mem {α : Type} (lt : α → α → Bool) (z : α) : ∀ (r P : List α), z ∈ isortFrom lt P r → z ∈ P ∨ z ∈ r
 | [], P, h => .inl h
 | x :: r, P, h => by
  rw [isortFrom] at h
  rcases isortFrom_mem lt z r _ h with h | h
  · rcases insR_mem lt x z P.reverse [] h with h | h | h
    · exact .inr (by simp [h])
    · exact .inl (List.mem_reverse.mp h)
    · cases h
  · exact .inr (by simp [h])
def ltNum (nums : List Int) (a b : Int) : Bool := decide (rd nums a < rd nums b)
theorem specInsert_ev (nums : List Int) (n8 : nums.length ≤ 8) (i : Nat) (hi : i < nums.length) (out : List Int) (ho : out.length = i) (hm : ∀ z ∈ out, 0 ≤ z ∧ z < nums.length) (r : List Int)
 (h : Ev (fun k => spec_l07Sorted.l0 k nums (insR (ltNum nums) (i : Int) out.reverse []) ((i + 1 : Nat) : Int)) r) :
 ∀ (a : Nat), a ≤ out.length → insR (ltNum nums) (i : Int) out.reverse [] = insR (ltNum nums) (i : Int) (out.take a).reverse (out.drop a) → Ev (fun k => spec_l07Sorted.l1 k nums out (i : Int) (a : Int)) r := by
 have w5 := succ64 i (by omega)
 have i0 : (0 : Int) ≤ (i : Int) := by omega
 have i1 : (i : Int) < (nums.length : Int) := by omega
 intro a
 induction a with
 | zero =>
  intro _ he
  have g : insR (ltNum nums) (i : Int) out.reverse [] = ([] ++ out.take 0) ++ [(i : Int)] ++ out.drop 0 := by rw [he]; rfl
  rw [g] at h
  refine Ev.step (f := fun k => spec_l07Sorted.l0 k nums (([] ++ out.take 0) ++ [(i : Int)] ++ out.drop 0) ((i + 1 : Nat) : Int)) (fun k => ?_) h
  have l1 : (([] : List Int)).length + (out.take 0).length < 17592186044416 := by simp
  have l2 : (([] : List Int) ++ out.take 0).length < 17592186044416 := by simp
  have l3 : (([] : List Int) ++ out.take 0 ++ [(i : Int)]).length + (out.drop 0).length < 17592186044416 := by simp; omega
  have a1 : ¬ (((0 : Nat) : Int) > 0) := by decide
  have a2 : (0 : Int) ≤ ((0 : Nat) : Int) := by decide
  have a3 : ((0 : Nat) : Int) ≤ (out.length : Int) := by omega
  have t0 : ((0 : Nat) : Int).toNat = 0 := rfl
  rw [spec_l07Sorted.l1]
  rw [if_neg a1, Option.bind_some, if_pos a2, if_pos a3, t0, Option.bind_some, if_pos l1, Option.bind_some, if_pos l2, Option.bind_some, Option.bind_some, if_pos l3, w5]
 | succ a ih =>
  intro ha he
  have c : a < out.length := by omega
  have a1 : ((a + 1 : Nat) : Int) > 0 := by omega
  have wa : wrap64 (((a + 1 : Nat) : Int) - 1) = (a : Int) := by rw [w64 _ (by omega) (by omega)]; omega
  have a2 : (0 : Int) ≤ (a : Int) := by omega
  have a3 : (a : Int) < (out.length : Int) := by omega
  have z := hm out[a] (List.getElem_mem c)
  have tk : (out.take (a + 1)).reverse = out[a] :: (out.take a).reverse := by
   rw [List.take_add_one, List.getElem?_eq_getElem c]
   simp
  rw [tk, insR] at he
  by_cases q : rd nums (i : Int) < rd nums out[a]
  · have q' : ltNum nums (i : Int) out[a] = true := decide_eq_true q
    rw [if_pos q', ← List.drop_eq_getElem_cons c] at he
    refine Ev.step (f := fun k => spec_l07Sorted.l1 k nums out (i : Int) (a : Int)) (fun k => ?_) (ih (by omega) he)
    rw [spec_l07Sorted.l1]
    rw [if_pos a1, if_pos i0, if_pos i1, wa, if_pos a2, if_pos a3, rd_of_lt out a c, if_pos z.1, if_pos z.2, if_pos q]
  · have q' : ¬ ltNum nums (i : Int) out[a] = true := fun h => q (of_decide_eq_true h)
    rw [if_neg q', List.reverse_reverse] at he
    have g : insR (ltNum nums) (i : Int) out.reverse [] = ([] ++ out.take (a + 1)) ++ [(i : Int)] ++ out.drop (a + 1) := by
     have e : out.take (a + 1) = out.take a ++ [out[a]] := by rw [List.take_add_one, List.getElem?_eq_getElem c]; rfl
     rw [he, e]
     simp only [List.nil_append, List.append_assoc, List.cons_append]
    rw [g] at h
    refine Ev.step (f := fun k => spec_l07Sorted.l0 k nums (([] ++ out.take (a + 1)) ++ [(i : Int)] ++ out.drop (a + 1)) ((i + 1 : Nat) : Int)) (fun k => ?_) h
    have l1 : (([] : List Int)).length + (out.take (a + 1)).length < 17592186044416 := by rw [List.length_take]; simp; omega
    have l2 : (([] : List Int) ++ out.take (a + 1)).length < 17592186044416 := by rw [List.nil_append, List.length_take]; omega
    have l3 : (([] : List Int) ++ out.take (a + 1) ++ [(i : Int)]).length + (out.drop (a + 1)).length < 17592186044416 := by rw [List.nil_append, List.length_append, List.length_take, List.length_drop, List.length_singleton]; omega
    have b2 : (0 : Int) ≤ ((a + 1 : Nat) : Int) := by omega
    have b3 : ((a + 1 : Nat) : Int) ≤ (out.length : Int) := by omega
    have t0 : ((a + 1 : Nat) : Int).toNat = a + 1 := Int.toNat_natCast _
    rw [spec_l07Sorted.l1]
    rw [if_pos a1, if_pos i0, if_pos i1, wa, if_pos a2, if_pos a3, rd_of_lt out a c, if_pos z.1, if_pos z.2, if_neg q, Option.bind_some, if_pos b2, if_pos b3, t0, Option.bind_some, if_pos l1, Option.bind_some, if_pos l2, Option.bind_some, Option.bind_some, if_pos l3, w5]
theorem iota_drop (n i : Nat) (h : i < n) : (iota n).drop i = (i : Int) :: (iota n).drop (i + 1) := by
 have h' : i < (iota n).length := by rw [iota_len]; exact h
 rw [List.drop_eq_getElem_cons h', iota_get]
theorem specSorted_ev (nums : List Int) (n8 : nums.length ≤ 8) : Ev (fun k => spec_l07Sorted.f k nums) (byLt (ltNum nums) nums.length) := by
 have key : ∀ (d i : Nat) (P : List Int), i + d = nums.length → P.length = i → (∀ z ∈ P, 0 ≤ z ∧ z < nums.length) → Ev (fun k => spec_l07Sorted.l0 k nums P (i : Int)) (isortFrom (ltNum nums) P ((iota nums.length).drop i)) := by
  intro d
  induction d with
  | zero =>
   intro i P hd _ _
   obtain rfl : i = nums.length := by omega
   have e : (iota nums.length).drop nums.length = [] := List.drop_eq_nil_of_le (by rw [iota_len]; exact Nat.le_refl _)
   rw [e, isortFrom]
   refine Ev.step (f := fun _ => some P) (fun k => ?_) (Ev.const rfl)
   rw [spec_l07Sorted.l0]
   rw [if_neg (Int.lt_irrefl _)]
  | succ d ih =>
   intro i P hd hP hm
   have c : i < nums.length := by omega
   have c1 : (i : Int) < (nums.length : Int) := by omega
   rw [iota_drop _ i c, isortFrom]
   have nx := ih (i + 1) (insR (ltNum nums) (i : Int) P.reverse []) (by omega) (by rw [insR_len, List.length_reverse, hP]; rfl) (fun z hz => by
    rcases insR_mem _ _ _ _ _ hz with h | h | h
    · exact ⟨by omega, by omega⟩
    · exact hm z (List.mem_reverse.mp h)
    · cases h)
   have q := specInsert_ev nums n8 i c P hP hm _ nx P.length (Nat.le_refl _) (by rw [List.take_length, List.drop_length])
   refine Ev.step (f := fun k => spec_l07Sorted.l1 k nums P (i : Int) (P.length : Int)) (fun k => ?_) q
   rw [spec_l07Sorted.l0]
   rw [if_pos c1]
 have := key nums.length 0 [] (by omega) rfl (fun z hz => by cases hz)
 rw [List.drop_zero] at this
 exact this
end Go.Proofs.Ythkccaclmodjiaa.I
end
