import Derived.Test.YtggjdcijplgpdaazEAllDryAtD0
import Derived.Test.YtggjdcijplgpdaazEAllDryAtEIsOrder
import Derived.Test.YtggjdcijplgpdaazEAllDryAtESortedV
import Derived.Test.YtggjdcijplgpdaazEAllDryAtELayCo
import Derived.Shelf.Abstract
import Derived.Lib.SlKeysI
namespace Go.Proofs.Ytggjdcijplgpdaa.D
open Go.RowKit Go.Proofs.YtggjdcijplgpdaaW.PrintWords Go.Proofs.YtggjdcijplgpdaaW.PrintLast Go.Proofs.YtggjdcijplgpdaaW.PrintMore
attribute [local go_sem] max2_int min2_int max_two min_two max_three min_three max_four min_four
set_option linter.unusedVariables false
set_option linter.unusedSimpArgs false
open Go.Sort Go.Shelf
def compactLen (l : List Int) : Option Int := if l.length ≤ 1048576 then some ((Lib.compact l).length : Int) else none
theorem intKd_inner2 {l : List Int} {inner : List Value} (h : Reps (fun (x : Int) (cs : List Value) => cs = [Value.int .i64 x]) 1 l inner) : inner = l.map (Value.int .i64) := by
  obtain ⟨hl, hc⟩ := h
  refine List.ext_getElem? fun j => ?_
  by_cases hj : j < l.length
  · have h1 := hc j l[j] (List.getElem?_eq_getElem hj)
    have h2 : inner[j]? = some (Value.int .i64 l[j]) := by
      have : ((inner.drop (j * 1)).take 1)[0]? = some (Value.int .i64 l[j]) := by rw [h1]; rfl
      rw [List.getElem?_take_of_lt (by omega), List.getElem?_drop] at this
      simpa using this
    rw [h2, List.getElem?_map, List.getElem?_eq_getElem hj]
    rfl
  · rw [List.getElem?_eq_none (by omega), List.getElem?_eq_none (by simp; omega)]
theorem R_own_ints2 {w : World} {base : Nat} {ok : Nat → Prop} {v : Value} {l : List Int} (h : Kd.R (Kd.int .i64) 2 w base ok v l) : w.ownsRow base 2 1 v l.length (l.map (Value.int .i64)) := by
  obtain ⟨_, inner, hown, hreps⟩ := h
  obtain rfl : inner = l.map (Value.int .i64) := intKd_inner2 hreps
  exact hown
theorem grownBy_put {w : World} {g n : Nat} (d : Array Int) : w.grownBy (putRow (Value.int .i64) (Sort.ahead w n) g 0 d) (some g) := by
  refine ⟨rfl, rfl, rfl, by simp [putRow, mapBlock, Sort.ahead], fun k hk hne => ?_⟩
  have : g ≠ k := fun e => hne (by rw [e])
  simp [putRow, mapBlock, Sort.ahead, Array.getElem?_modify, this]
theorem compactOf (v : Value) (l : List Int) (r : Int) (w0 W : World) (h : Kd.R (Kd.int .i64) 2 W w0.heap.size (fun _ => True) v l) (hb : Below w0.heap.size w0 W) (hr : compactLen l = some r) :
    Calls Try.prog 107 #[v] W fun e w' => ∃ A c n, e = .returned (.slice A n c) ∧ ((n : Nat) : Int) = r ∧ Below w0.heap.size w0 w' := by
  unfold compactLen at hr
  by_cases hl : l.length ≤ 1048576
  · rw [if_pos hl] at hr
    have hr := Option.some.inj hr
    rcases (R_own_ints2 h).2 with ⟨rfl, hz⟩ | ⟨gb, cap, cur, rfl, hbase, hgb, r1, r2, r3, r4⟩
    · have hss : l = [] := List.eq_nil_of_length_eq_zero hz
      subst hss
      refine (AnyG.slices_Compact_int_empty Try.compactA none 0 W).mono ?_
      rintro e w' ⟨rfl, rfl⟩
      exact ⟨_, _, 0, rfl, hr, hb⟩
    · have hH : Holds (Value.int .i64) W gb 0 l.toArray := holds_of_block_i hgb (by rw [Nat.mul_one] at r4; exact r4)
      refine (AnyG.slices_Compact_int Try.compactA gb 0 cap l W hH (by omega) (by omega)).mono ?_
      rintro e w' ⟨rfl, q, rfl⟩
      exact ⟨_, _, _, rfl, hr, hb.grown (grownBy_put _) hb.size (fun j hj => by cases hj; exact hbase)⟩
  · rw [if_neg hl] at hr
    cases hr
theorem sortedOf2 (Bs : Nat) (A0 : Option Addr) (c0 : Nat) (zs r : List Int) (w : World) (hs : sortedList zs = some r) (hlt : Bs < w.heap.size) (hBs : w.cell? ⟨Bs, 0, none⟩ = some (.slice A0 zs.length c0)) (hr : Kd.C (Kd.int .i64) w A0 zs.length zs) :
    Calls Try.prog 104 #[.func (.func 138) #[] #[.pointer (some ⟨Bs, 0, none⟩)]] w fun e w' => ∃ v, e = .returned v ∧ Kd.R (Kd.int .i64) 2 w' w.heap.size (fun _ => True) v r ∧ Below w.heap.size w w' := by
  obtain ⟨hl, rfl⟩ := sortedList_some hs
  exact sortedOf Bs A0 c0 zs w hl hlt hBs hr
end Go.Proofs.Ytggjdcijplgpdaa.D
