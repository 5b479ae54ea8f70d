import Derived.Test.YthkccaclmodjiaazERisingOrderEBLate
import Derived.Test.YthkccaclmodjiaazERisingOrderEBLem1
import Derived.Test.YthkccaclmodjiaazERisingOrderEBTime
import Derived.Test.YthkccaclmodjiaazERisingOrderEEvLoop
import Derived.Test.YthkccaclmodjiaazERisingOrderEIota
import Derived.Test.YthkccaclmodjiaazERisingOrderEListsPiece
import Derived.Test.YthkccaclmodjiaazERisingOrderEOrders2
import Derived.Test.YthkccaclmodjiaazERisingOrderESortLst
import Derived.Test.YthkccaclmodjiaazERisingOrderESortStab
import Derived.Test.YthkccaclmodjiaazERisingOrderESortedBy
import Derived.Test.YthkccaclmodjiaazERisingOrderI0
import Derived.Test.YthkccaclmodjiaazERisingOrderI12
import Derived.Test.YthkccaclmodjiaazERisingOrderI13
namespace Go.Proofs.Ythkccaclmodjiaa.I
open Go.RowKit Go.Proofs.YthkccaclmodjiaaW.PrintWords Go.Proofs.YthkccaclmodjiaaW.PrintLast Go.Proofs.YthkccaclmodjiaaW.PrintMore
attribute [local go_sem] max2_int min2_int max_two min_two max_three min_three max_four min_four
set_option linter.unusedVariables false
set_option linter.unusedSimpArgs false
theorem insR_congr {α : Type} (lt lt' : α → α → Bool) (x : α) : ∀ (R S : List α), (∀ y ∈ R, lt x y = lt' x y) → insR lt x R S = insR lt' x R S
  | [], _, _ => rfl
  | y :: R, S, h => by
    rw [insR, insR, h y (by simp)]
    by_cases c : lt' x y = true
    · rw [if_pos c, if_pos c, insR_congr lt lt' x R (y :: S) (fun z hz => h z (by simp [hz]))]
    · rw [if_neg c, if_neg c]
theorem isortFrom_congr {α : Type} (lt lt' : α → α → Bool) : ∀ (r P : List α), (∀ a b, (a ∈ P ∨ a ∈ r) → (b ∈ P ∨ b ∈ r) → lt a b = lt' a b) → isortFrom lt P r = isortFrom lt' P r
  | [], _, _ => rfl
  | x :: r, P, h => by
    rw [isortFrom, isortFrom, insR_congr lt lt' x P.reverse [] (fun y hy => h x y (.inr (by simp)) (.inl (List.mem_reverse.mp hy)))]
    refine isortFrom_congr lt lt' r _ fun a b ha hb => ?_
    have f : ∀ z, (z ∈ insR lt' x P.reverse [] ∨ z ∈ r) → (z ∈ P ∨ z ∈ x :: r) := by
      rintro z (hz | hz)
      · rcases insR_mem lt' x z P.reverse [] hz with e | e | e
        · exact .inr (by simp [e])
        · exact .inl (List.mem_reverse.mp e)
        · cases e
      · exact .inr (by simp [hz])
    exact h a b (f a ha) (f b hb)
theorem sortKey_nums (key : S57 → Int) (l : List S57) (hk : ∀ p ∈ l, 0 ≤ key p ∧ key p ≤ 1000) : sortKey key l = byLt (ltNum (l.map key)) l.length := by
  unfold sortKey byLt
  refine isortFrom_congr _ _ _ _ ?_
  have at_ : ∀ a : Int, (a ∈ ([] : List Int) ∨ a ∈ iota l.length) → rd (l.map key) a = key (rd_T57 l ((a.toNat : Nat) : Int)) ∧ (0 ≤ key (rd_T57 l ((a.toNat : Nat) : Int)) ∧ key (rd_T57 l ((a.toNat : Nat) : Int)) ≤ 1000) := by
    rintro a (h | h)
    · cases h
    · have hb := (iota_mem _ _).mp h
      obtain ⟨i, rfl⟩ : ∃ i : Nat, a = (i : Int) := ⟨a.toNat, by omega⟩
      have c : i < l.length := by omega
      rw [Int.toNat_natCast, rd57_lt l i c, rd_of_lt _ i (by simpa using c), List.getElem_map]
      exact ⟨rfl, hk _ (List.getElem_mem _)⟩
  intro a b ha hb
  obtain ⟨e1, b1⟩ := at_ a ha
  obtain ⟨e2, b2⟩ := at_ b hb
  unfold ltNum
  rw [e1, e2]
  generalize key (rd_T57 l ((a.toNat : Nat) : Int)) = u at b1 ⊢
  generalize key (rd_T57 l ((b.toNat : Nat) : Int)) = v at b2 ⊢
  have w : wrap64 (u - v) = u - v := w64 _ (by omega) (by omega)
  rw [w]
  by_cases q : u < v
  · rw [decide_eq_true q, decide_eq_true (by omega)]
  · rw [decide_eq_false q, decide_eq_false (by omega)]
theorem codeIron_0 (l : List S57) : codeIron 0 0 l = codeOf l := by
  have h : okIron 0 0 = true := by
    unfold okIron
    rw [w64 0 (by omega) (by omega)]
    rfl
  unfold codeIron
  rw [if_pos h]
def orderRes (key : S57 → Int) (l : List S57) : List Int × Int := if codeOf l = 0 then (sortKey key l, 0) else ([], codeOf l)
theorem orderRes_len (key : S57 → Int) (l : List S57) (h : l.length ≤ 1048576) : (orderRes key l).1.length ≤ 1048576 := by
  unfold orderRes
  by_cases c : codeOf l = 0
  · rw [if_pos c]
    show (sortKey key l).length ≤ _
    unfold sortKey
    rw [byLt_len]
    exact h
  · rw [if_neg c]
    exact Nat.zero_le _
theorem orderBy_ev (key : S57 → Int) (l : List S57) : Ev (fun k => orderBy key k l) (orderRes key l) := by
  refine Ev.bind (pieceCode_ev l) ?_
  unfold orderRes
  by_cases c : codeOf l = 0
  · rw [if_pos c, if_pos c]
    have h8 : l.length ≤ 8 := by
      have := codeIron_0 l
      exact (code_zero 0 0 l (this.trans c)).2.1
    rw [if_pos h8]
    exact Ev.const rfl
  · rw [if_neg c, if_neg c]
    exact Ev.const rfl
theorem specRisingOrder_nums (l : List S57) (h8 : l.length ≤ 8) : Ev (fun k => spec_RisingOrder.l0 k l [] 0) (byLt (ltNum (l.map (fun x => wrap64 x.f0))) l.length, 0) := by
  have key : ∀ (d i : Nat), i + d = l.length → Ev (fun k => spec_RisingOrder.l0 k l ((l.map (fun x => wrap64 x.f0)).take i) (i : Int)) (byLt (ltNum (l.map (fun x => wrap64 x.f0))) l.length, 0) := by
    intro d
    induction d with
    | zero =>
      intro i hd
      obtain rfl : i = l.length := by omega
      have s := specSorted_ev (l.map (fun x => wrap64 x.f0)) (by rw [List.length_map]; exact h8)
      rw [List.length_map] at s
      have tk : (l.map (fun x => wrap64 x.f0)).take l.length = l.map (fun x => wrap64 x.f0) := List.take_of_length_le (by rw [List.length_map]; exact Nat.le_refl _)
      rw [tk]
      refine Ev.step (f := fun k => (spec_l07Sorted.f k (l.map (fun x => wrap64 x.f0))).bind fun t368 => (some (t368, 0))) (fun k => ?_) (Ev.bind s (Ev.const rfl))
      rw [spec_RisingOrder.l0]
      rw [if_neg (Int.lt_irrefl _)]
    | succ d ih =>
      intro i hd
      have c : i < l.length := by omega
      have c1 : (i : Int) < (l.length : Int) := by omega
      have c2 : (0 : Int) ≤ (i : Int) := by omega
      have c3 : ((l.map (fun x => wrap64 x.f0)).take i).length < 17592186044416 := by rw [List.length_take, List.length_map]; omega
      have w5 := succ64 i (by omega)
      have n := ih (i + 1) (by omega)
      have tk : (l.map (fun x => wrap64 x.f0)).take (i + 1) = (l.map (fun x => wrap64 x.f0)).take i ++ [wrap64 l[i].f0] := by
        rw [List.take_add_one, List.getElem?_map, List.getElem?_eq_getElem c]
        rfl
      rw [tk] at n
      refine Ev.step (f := fun k => spec_RisingOrder.l0 k l ((l.map (fun x => wrap64 x.f0)).take i ++ [wrap64 l[i].f0]) ((i + 1 : Nat) : Int)) (fun k => ?_) n
      rw [spec_RisingOrder.l0]
      rw [if_pos c1, if_pos c2, if_pos c3, rd57_lt l i c, w5]
  have := key l.length 0 (by omega)
  rw [List.take_zero] at this
  exact this
theorem RisingOrder_both (l : List S57) (hm : l.length ≤ 4611686018427387904) (ht : Typed l) :
    Ev (fun k => spec_RisingOrder.f k l) (orderRes (fun x => wrap64 x.f0) l) ∧ Ev (fun k => impl_RisingOrder.f k l) (orderRes (fun x => wrap64 x.f0) l) := by
  refine ⟨?_, orderBy_ev _ l⟩
  have a := asked_ev 0 0 l hm
  rw [codeIron_0] at a
  refine Ev.bind a ?_
  unfold orderRes
  by_cases c : codeOf l = 0
  · obtain ⟨h8, hf⟩ := fine_of 0 0 l ht ((codeIron_0 l).trans c)
    rw [if_pos c, sortKey_nums _ l (fun p hp => by
      have f := hf p hp
      rw [f.1]
      exact ⟨(by have := f.2.2.2.1; exact Int.le_trans (by decide) this), (Int.le_trans f.2.2.2.2.1 (by decide))⟩)]
    exact Ev.ite_t c (specRisingOrder_nums l h8)
  · rw [if_neg c]
    exact Ev.ite_f c (Ev.const rfl)
end Go.Proofs.Ythkccaclmodjiaa.I
