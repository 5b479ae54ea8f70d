import Derived.Test.YtggjdcijplgpdaazEHangInOrderD0
namespace Go.Proofs.Ytggjdcijplgpdaa.D
open Go.RowKit Go.Proofs.YtggjdcijplgpdaaW.PrintWords Go.Proofs.YtggjdcijplgpdaaW.PrintLast Go.Proofs.YtggjdcijplgpdaaW.PrintMore
attribute [local go_sem] max2_int min2_int max_two min_two max_three min_three max_four min_four
set_option linter.unusedVariables false
set_option linter.unusedSimpArgs false
theorem nodup_len : ∀ (l m : List Int), l.Nodup → (∀ x ∈ l, x ∈ m) → l.length ≤ m.length
  | [], _, _, _ => Nat.zero_le _
  | a :: r, m, h, s => by
    have ha := s a (by simp)
    obtain ⟨h0, h2⟩ := List.nodup_cons.mp h
    have h1 := nodup_len r (m.erase a) h2 (fun x hx => (List.mem_erase_of_ne (show x ≠ a from fun e => h0 (e ▸ hx))).mpr (s x (by simp [hx])))
    rw [List.length_erase_of_mem ha] at h1
    have := List.length_pos_of_mem ha
    simp only [List.length_cons]
    omega
def iota (n : Nat) : List Int := (List.range n).map Int.ofNat
theorem iota_len (n : Nat) : (iota n).length = n := by simp [iota]
theorem iota_mem (n : Nat) (x : Int) : x ∈ iota n ↔ 0 ≤ x ∧ x < n := by
  simp only [iota, List.mem_map, List.mem_range]
  constructor
  · rintro ⟨a, h, rfl⟩
    exact ⟨Int.natCast_nonneg a, by simpa using h⟩
  · rintro ⟨h1, h2⟩
    exact ⟨x.toNat, by omega, by show ((x.toNat : Nat) : Int) = x; omega⟩
theorem iota_get (n i : Nat) (h : i < (iota n).length) : (iota n)[i] = (i : Int) := by simp [iota]
theorem iota_inc (n : Nat) : (iota n).Pairwise (fun a b => a < b) := by
  rw [iota, List.pairwise_map]
  refine List.pairwise_lt_range.imp ?_
  intro a b h
  exact Int.ofNat_lt.mpr h
theorem iota_nodup (n : Nat) : (iota n).Nodup := (iota_inc n).imp (fun h => by omega)
def srt (l : List Int) : List Int := l.mergeSort fun x y => decide (x ≤ y)
theorem srt_perm (l : List Int) : (srt l).Perm l := List.mergeSort_perm _ _
theorem srt_len (l : List Int) : (srt l).length = l.length := (srt_perm l).length_eq
theorem srt_up (l : List Int) : (srt l).Pairwise (fun a b => a ≤ b) := by
  refine (List.pairwise_mergeSort (le := fun x y : Int => decide (x ≤ y)) ?_ ?_ l).imp (fun h => of_decide_eq_true h)
  · intro a b c h1 h2
    have := of_decide_eq_true h1
    have := of_decide_eq_true h2
    exact decide_eq_true (by omega)
  · intro a b
    by_cases h : a ≤ b
    · simp [h]
    · simp [show b ≤ a by omega]
theorem srt_of_perm (l m : List Int) (h : l.Perm m) (hm : m.Pairwise (fun a b => a ≤ b)) : srt l = m := by
  refine List.Perm.eq_of_pairwise (le := fun a b : Int => a ≤ b) (fun a b _ _ h1 h2 => by omega) (srt_up l) hm ((srt_perm l).trans h)
theorem perm_iota (l : List Int) (h : l.Nodup) (hr : ∀ x ∈ l, 0 ≤ x ∧ x < l.length) : l.Perm (iota l.length) := by
  refine (List.perm_ext_iff_of_nodup h (iota_nodup _)).mpr fun a => ?_
  constructor
  · intro ha
    exact (iota_mem _ _).mpr (hr a ha)
  · intro ha
    refine Classical.byContradiction fun hn => ?_
    have h1 := nodup_len l ((iota l.length).erase a) h (fun x hx => (List.mem_erase_of_ne (show x ≠ a from fun e => hn (e ▸ hx))).mpr ((iota_mem _ _).mpr (hr x hx)))
    rw [List.length_erase_of_mem ha, iota_len] at h1
    have := (iota_mem _ _).mp ha
    omega
def isOrd (l : List Int) (n : Nat) : Bool := decide (l.length = n) && decide (srt l = iota l.length)
theorem isOrd_iff (l : List Int) (n : Nat) : isOrd l n = true ↔ l.length = n ∧ l.Nodup ∧ ∀ x ∈ l, 0 ≤ x ∧ x < n := by
  unfold isOrd
  rw [Bool.and_eq_true, decide_eq_true_iff, decide_eq_true_iff]
  constructor
  · rintro ⟨rfl, h⟩
    have hp : l.Perm (iota l.length) := (srt_perm l).symm.trans (by rw [h])
    exact ⟨rfl, hp.nodup_iff.mpr (iota_nodup _), fun x hx => (iota_mem _ _).mp (hp.mem_iff.mp hx)⟩
  · rintro ⟨rfl, h1, h2⟩
    exact ⟨rfl, srt_of_perm _ _ (perm_iota l h1 h2) ((iota_inc _).imp (fun h => by omega))⟩
end Go.Proofs.Ytggjdcijplgpdaa.D
