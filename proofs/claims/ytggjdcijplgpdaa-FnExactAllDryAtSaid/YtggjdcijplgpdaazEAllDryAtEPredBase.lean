import Derived.Test.YtggjdcijplgpdaazEAllDryAtD0
namespace Go.Proofs.Ytggjdcijplgpdaa.D
open Go.RowKit Go.Proofs.YtggjdcijplgpdaaW.PrintWords Go.Proofs.YtggjdcijplgpdaaW.PrintLast Go.Proofs.YtggjdcijplgpdaaW.PrintMore
attribute [local go_sem] max2_int min2_int max_two min_two max_three min_three max_four min_four
set_option linter.unusedVariables false
set_option linter.unusedSimpArgs false
def PredOn (ik : IntKind) (g : Nat) (lb : Array Value) (p : Int → Bool) (zs : List Int) (w : World) : Prop :=
  ∀ (W : World) (x : Int), x ∈ zs → Below w.heap.size w W → Calls Try.prog g (#[.int ik x] ++ lb) W fun e w' => e = .returned (.bool (p x)) ∧ Below w.heap.size w w'
def idxP (p : Int → Bool) (zs : List Int) : Int := match zs.findIdx? p with
  | some i => (i : Int)
  | none => -1
theorem rd_getD (zs : List Int) (j : Nat) : rd zs (j : Int) = zs.getD j 0 := rfl
theorem rd_mem (zs : List Int) (j : Nat) (h : j < zs.length) : rd zs (j : Int) ∈ zs := by
  rw [rd_getD, List.getD_eq_getElem?_getD, List.getElem?_eq_getElem h]
  exact List.getElem_mem h
theorem idxP_hit (p : Int → Bool) (zs : List Int) (j : Nat) (h : j < zs.length) (hj : p (rd zs j) = true) (ho : ∀ i, i < j → p (rd zs (i : Nat)) = false) : idxP p zs = j := by
  have e : zs.findIdx? p = some j := by
    rw [List.findIdx?_eq_some_iff_getElem]
    refine ⟨h, ?_, fun i hi => ?_⟩
    · rw [rd_getD, List.getD_eq_getElem?_getD, List.getElem?_eq_getElem h] at hj
      exact hj
    · have := ho i hi
      rw [rd_getD, List.getD_eq_getElem?_getD, List.getElem?_eq_getElem (Nat.lt_trans hi h)] at this
      simpa using this
  unfold idxP
  rw [e]
theorem idxP_miss (p : Int → Bool) (zs : List Int) (ho : ∀ i, i < zs.length → p (rd zs (i : Nat)) = false) : idxP p zs = -1 := by
  have e : zs.findIdx? p = none := by
    rw [List.findIdx?_eq_none_iff]
    intro x hx
    obtain ⟨i, hi, rfl⟩ := List.getElem_of_mem hx
    have := ho i hi
    rw [rd_getD, List.getD_eq_getElem?_getD, List.getElem?_eq_getElem hi] at this
    exact this
  unfold idxP
  rw [e]
theorem idxP_any (p : Int → Bool) (zs : List Int) : decide (0 ≤ idxP p zs) = zs.any p := by
  unfold idxP
  cases h : zs.findIdx? p with
  | some i =>
    rw [List.findIdx?_eq_some_iff_getElem] at h
    obtain ⟨hi, hp, _⟩ := h
    have : zs.any p = true := List.any_eq_true.mpr ⟨_, List.getElem_mem hi, hp⟩
    rw [this]
    simp
  | none =>
    rw [List.findIdx?_eq_none_iff] at h
    have : zs.any p = false := by
      rw [List.any_eq_false]
      intro x hx
      simpa using h x hx
    rw [this]
    rfl
end Go.Proofs.Ytggjdcijplgpdaa.D
