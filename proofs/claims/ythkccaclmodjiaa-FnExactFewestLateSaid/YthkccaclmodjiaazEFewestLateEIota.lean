import Derived.Test.YthkccaclmodjiaazEFewestLateI0
namespace Go.Proofs.Ythkccaclmodjiaa.I
open Go.RowKit Go.Proofs.YthkccaclmodjiaaW.PrintWords Go.Proofs.YthkccaclmodjiaaW.PrintLast Go.Proofs.YthkccaclmodjiaaW.PrintMore
attribute [local go_sem] max2_int min2_int max_two min_two max_three min_three max_four min_four
set_option linter.unusedVariables false
set_option linter.unusedSimpArgs false
theorem nodup_len : ∀ (l m : List Int), l.Nodup → (∀ x ∈ l, x ∈ m) → l.length ≤ m.length
  | [], _, _, _ => Nat.zero_le _
  | a :: r, m, h, s => by
    have ha := s a (by simp)
    obtain ⟨h0, h2⟩ := List.nodup_cons.mp h
    have h1 := nodup_len r (m.erase a) h2 (fun x hx => (List.mem_erase_of_ne (show x ≠ a from fun e => h0 (e ▸ hx))).mpr (s x (by simp [hx])))
    rw [List.length_erase_of_mem ha] at h1
    have := List.length_pos_of_mem ha
    simp only [List.length_cons]
    omega
def iota (n : Nat) : List Int := (List.range n).map Int.ofNat
theorem iota_len (n : Nat) : (iota n).length = n := by simp [iota]
theorem iota_mem (n : Nat) (x : Int) : x ∈ iota n ↔ 0 ≤ x ∧ x < n := by
  simp only [iota, List.mem_map, List.mem_range]
  constructor
  · rintro ⟨a, h, rfl⟩
    exact ⟨Int.natCast_nonneg a, by simpa using h⟩
  · rintro ⟨h1, h2⟩
    exact ⟨x.toNat, by omega, by show ((x.toNat : Nat) : Int) = x; omega⟩
theorem iota_inc (n : Nat) : (iota n).Pairwise (fun a b => a < b) := by
  rw [iota, List.pairwise_map]
  refine List.pairwise_lt_range.imp ?_
  intro a b h
  exact Int.ofNat_lt.mpr h
theorem iota_nodup (n : Nat) : (iota n).Nodup := (iota_inc n).imp (fun h => by omega)
def srt (l : List Int) : List Int := l.mergeSort fun x y => decide (x ≤ y)
theorem srt_perm (l : List Int) : (srt l).Perm l := List.mergeSort_perm _ _
theorem srt_len (l : List Int) : (srt l).length = l.length := (srt_perm l).length_eq
end Go.Proofs.Ythkccaclmodjiaa.I
