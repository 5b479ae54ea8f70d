import Derived.Test.YthkccaclmodjiaazEFewestLateEIota
import Derived.Test.YthkccaclmodjiaazEFewestLateEIsOrder
import Derived.Test.YthkccaclmodjiaazEFewestLateESortedV
import Derived.Test.YthkccaclmodjiaazEFewestLateI0
import Derived.Lib.SlKeysI
namespace Go.Proofs.Ythkccaclmodjiaa.I
open Go.RowKit Go.Proofs.YthkccaclmodjiaaW.PrintWords Go.Proofs.YthkccaclmodjiaaW.PrintLast Go.Proofs.YthkccaclmodjiaaW.PrintMore
attribute [local go_sem] max2_int min2_int max_two min_two max_three min_three max_four min_four
set_option linter.unusedVariables false
set_option linter.unusedSimpArgs false
open Go.Sort Go.Shelf Go.Maps
theorem intKd_inner {l : List Int} {inner : List Value} (h : Reps (fun (x : Int) (cs : List Value) => cs = [Value.int .i64 x]) 1 l inner) : inner = l.map (Value.int .i64) := by
  refine List.ext_getElem? fun j => ?_
  by_cases c : j < l.length
  · have hj := h.2 j l[j] (List.getElem?_eq_getElem c)
    have hi : j < inner.length := by rw [h.1]; omega
    rw [Nat.mul_one, List.drop_eq_getElem_cons hi, List.take_succ_cons, List.take_zero] at hj
    rw [List.getElem?_eq_getElem hi, List.getElem?_map, List.getElem?_eq_getElem c]
    injection hj with e _
    rw [e]
    rfl
  · rw [List.getElem?_eq_none (by rw [h.1]; omega), List.getElem?_eq_none (by simp; omega)]
def slices_Sort_int64_int64.f (k : Nat) (l0 : List Int) : Option (List Int) := sortedList l0
theorem slices_Sort_int64_int64.mono : ∀ a0 k, LeO (slices_Sort_int64_int64.f k a0) (slices_Sort_int64_int64.f (k + 1) a0) := fun _ _ => LeO.refl _
theorem slices_Sort_int64_int64.calls (k : Nat) (P0_ : Nat → Prop) (u9000_ : Value) (l0 : List Int) (r : List Int) (w0 w : World) (hB : Below w0.heap.size w0 w) (ho0 : Kd.R (Kd.int .i64) 2 w w0.heap.size P0_ u9000_ l0) (h : slices_Sort_int64_int64.f k l0 = some r) :
    Calls Try.prog 118 #[u9000_] w fun e w' => e = .returned (.tuple #[]) ∧ Kd.R (Kd.int .i64) 2 w' w0.heap.size (fun k_ => (P0_ k_ ∨ w.heap.size ≤ k_)) u9000_ r ∧ Below w0.heap.size w0 w' ∧ Kept w w' (fun k_ => P0_ k_) := by
  obtain ⟨hlen, rfl⟩ := sortedList_some h
  obtain ⟨hP, inner, hown, hreps⟩ := ho0
  obtain rfl : inner = l0.map (Value.int .i64) := intKd_inner hreps
  replace hown : w.ownsRow w0.heap.size 2 1 u9000_ l0.length (l0.map (Value.int .i64)) := hown
  rcases hown.2 with ⟨rfl, hz⟩ | ⟨gb, cap, cur, rfl, hbase, hgb, r1, r2, r3, r4⟩
  · have hss : l0 = [] := List.eq_nil_of_length_eq_zero hz
    subst hss
    refine (AnyM.slices_Sort_int_none Try.sortA none 0 w).mono ?_
    rintro e w' ⟨rfl, rfl⟩
    have hs : srt ([] : List Int) = [] := List.eq_nil_of_length_eq_zero (by rw [srt_len]; rfl)
    rw [hs]
    exact ⟨rfl, ⟨fun k hk => .inl (hP k hk), [], hown, intKd_reps []⟩, hB, Kept.refl _ _⟩
  · have hH : Holds encZ w gb 0 l0.toArray := holds_of_block_i hgb (by rw [Nat.mul_one] at r4; exact r4)
    have hgl : gb < w.heap.size := (Array.getElem?_eq_some_iff.1 hgb).1
    have hPg : P0_ gb := hP gb (by simp [Value.ownBlock])
    refine (AnyM.slices_Sort_int Try.sortA gb 0 cap l0 w hH hgl (by omega)).mono ?_
    rintro e w' ⟨rfl, nn, os, rfl⟩
    have hg := grownBy_sorted_i (w := w) (g := gb) (n := nn) (os := os) ((srt l0).toArray)
    have ho := ownsRow_sorted_i (w := w) (n := nn) (os := os) (ss := l0) (ts := srt l0) (srt_len l0) hbase hgb r1 r2 r3
    refine ⟨rfl, ⟨fun k hk => .inl (hP k hk), (srt l0).map (Value.int .i64), by rw [srt_len]; exact ho, intKd_reps _⟩, hB.grown hg hB.size (fun j hj => by cases hj; exact hbase), ?_⟩
    refine ⟨hg.size, fun i hi hn => hg.block i hi (fun e => ?_)⟩
    cases e
    exact hn hPg
end Go.Proofs.Ythkccaclmodjiaa.I
