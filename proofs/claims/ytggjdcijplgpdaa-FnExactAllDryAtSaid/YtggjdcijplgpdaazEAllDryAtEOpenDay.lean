import Derived.Test.YtggjdcijplgpdaazEAllDryAtD0
import Derived.Test.YtggjdcijplgpdaazEAllDryAtEDayBase
import Derived.Test.YtggjdcijplgpdaazEAllDryAtEOpen
import Derived.OpenShut
import Derived.Lib.SmallJoins
import Derived.Deep.Slices
import Derived.Deep.Fields
import Derived.ChangeSame
import Derived.ChangeOld
import Derived.SizedLaws
namespace Go.Proofs.Ytggjdcijplgpdaa.D
open Go.RowKit Go.Proofs.YtggjdcijplgpdaaW.PrintWords Go.Proofs.YtggjdcijplgpdaaW.PrintLast Go.Proofs.YtggjdcijplgpdaaW.PrintMore
attribute [local go_sem] max2_int min2_int max_two min_two max_three min_three max_four min_four
set_option linter.unusedVariables false
set_option linter.unusedSimpArgs false
open Go.ChangeShapes Go.WideShapes Go.Deep Go.Joins
section
variable {H : Type} {enc : TypeId × Value → H} {w : World} {base : Nat} {spare : Nat → Bool} {held : Bool}
theorem okWide_arr {P : Program} {r : Reach} {b0 : Nat} {t e : TypeId} {n : Nat} {v : Value} (ht : P.underlying t = some (.array n e)) (h : Value.okWide P w r b0 t v) : ∃ cs, v = .agg cs ∧ cs.size = P.cellsOf t := by
  simp only [Value.okWide, ht] at h
  obtain ⟨cs, h1, h2, _⟩ := h
  exact ⟨cs, h1, h2⟩
theorem arr_of {P : Program} {r : Reach} {b0 : Nat} {t e : TypeId} {n : Nat} {fs : Array Field} {kd : Nat → IntKind} {v : Value} {d : DataW H} {p : List MemPlace} (hs : P.underlying t = some (.array n e)) (he : P.underlying e = some (.struct fs)) (hone : oneCellFields P fs = true) (hC : P.cellsOf e = fs.size) (hCt : P.cellsOf t = n * fs.size)
    (hk : ∀ (j : Nat) (f : Field), fs[j]? = some f → P.underlying f.type = some (.int (kd j))) (hv : Value.okWide P w r b0 t v) (h : DataW.Trod enc P w base spare held t v d p) :
    ∃ (cs : Array Value) (G : Nat → Nat → Int), v = .agg cs ∧ cs.size = n * fs.size ∧ ∀ q, q < n → ∀ j, j < fs.size → cs[q * fs.size + j]? = some (.int (kd j) (G q j)) ∧ (Lit.int (kd j) (G q j)).wf = true := by
  obtain ⟨cs, rfl, hsz⟩ := okWide_arr hs hv
  obtain ⟨fuel, hf⟩ := h
  obtain ⟨xs, m, _, _, hcl, hxl, hi⟩ := DataW.trod_array hs hf
  have hl : (Value.agg cs).cells.toList.length = n * fs.size := by simp [Value.cells, hsz, hCt]
  have one : ∀ q, q < n → ∃ g : Nat → Int, ∀ j, j < fs.size → cs[q * fs.size + j]? = some (.int (kd j) (g j)) ∧ (Lit.int (kd j) (g j)).wf = true := by
    intro q hq
    have h1 := hi q hq
    have hxq : xs[q]? = some (xs[q]'(by omega)) := List.getElem?_eq_getElem (by omega)
    rw [hC] at h1
    have hle : q * fs.size + fs.size ≤ n * fs.size := by rw [← Nat.succ_mul]; exact Nat.mul_le_mul_right _ hq
    have hlen : (((Value.agg cs).cells.toList.drop (q * fs.size)).take fs.size).length = fs.size := by
      rw [List.length_take, List.length_drop, hl]
      omega
    obtain ⟨g, hg⟩ := Open.ints_of he hone hk hlen (h1.trans hxq)
    refine ⟨g, fun j hj => ⟨?_, (hg j hj).2⟩⟩
    have := (hg j hj).1
    rw [List.getElem?_take_of_lt hj, List.getElem?_drop] at this
    simpa [Value.cells] using this
  refine ⟨cs, fun q j => if hq : q < n then Classical.choose (one q hq) j else 0, rfl, hsz.trans hCt, fun q hq j hj => ?_⟩
  simp only [hq, dif_pos]
  exact Classical.choose_spec (one q hq) j hj
theorem day_list {cs : Array Value} {G : Nat → Nat → Int} (hz : cs.size = 72) (h : ∀ q, q < 24 → ∀ j, j < 3 → cs[q * 3 + j]? = some (.int .i8 (G q j))) : cs = dayA ((List.range 24).map fun q => ⟨G q 0, G q 1, G q 2⟩) := by
  apply Array.ext_getElem?
  intro i
  by_cases hi : i < 72
  · obtain ⟨q, j, rfl, hj⟩ : ∃ q j, i = q * 3 + j ∧ j < 3 := ⟨i / 3, i % 3, by omega, by omega⟩
    have hq : q < 24 := by omega
    rw [h q hq j hj, dayA_get _ q ⟨G q 0, G q 1, G q 2⟩ (by rw [List.getElem?_map, List.getElem?_range hq]; rfl) j hj]
    rcases (show j = 0 ∨ j = 1 ∨ j = 2 by omega) with rfl | rfl | rfl <;> rfl
  · rw [Array.getElem?_eq_none (by omega), Array.getElem?_eq_none (by rw [dayA_size]; simp; omega)]
end
end Go.Proofs.Ytggjdcijplgpdaa.D
