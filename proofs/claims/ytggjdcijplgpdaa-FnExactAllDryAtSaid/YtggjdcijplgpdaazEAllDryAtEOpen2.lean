import Derived.Test.YtggjdcijplgpdaazEAllDryAtD0
import Derived.Test.YtggjdcijplgpdaazEAllDryAtWords1
import Derived.Test.YtggjdcijplgpdaazEAllDryAtWords2
namespace Go.Proofs.Ytggjdcijplgpdaa.D
open Go.RowKit Go.Proofs.YtggjdcijplgpdaaW.PrintWords Go.Proofs.YtggjdcijplgpdaaW.PrintLast Go.Proofs.YtggjdcijplgpdaaW.PrintMore
attribute [local go_sem] max2_int min2_int max_two min_two max_three min_three max_four min_four
set_option linter.unusedVariables false
set_option linter.unusedSimpArgs false
theorem row_C {α : Type} (d : Kd α) (m : Nat) (mk : (Nat → Int) → α) (kd : Nat → IntKind) {W : World} {a : Option Addr} {len : Nat} (hK : ∀ g, d.K W (mk g) ((List.range m).map fun j => .int (kd j) (g j))) (hs : d.sz = m) (hm : len ≤ 9223372036854775807)
    (h : (a = none ∧ len = 0) ∨ ∃ ad, a = some ad ∧ ∃ G : Nat → Nat → Int, ∀ q, q < len → ∀ j, j < m → W.cell? (ad.add (q * m + j)) = some (.int (kd j) (G q j)) ∧ (Lit.int (kd j) (G q j)).wf = true) :
    ∃ l : List α, l.length = len ∧ Kd.C d W a len l ∧ ∀ x ∈ l, ∃ g : Nat → Int, x = mk g ∧ ∀ j, j < m → (Lit.int (kd j) (g j)).wf = true := by
  rcases h with ⟨rfl, rfl⟩ | ⟨ad, rfl, G, hG⟩
  · exact ⟨[], rfl, ⟨rfl, by omega, fun h => absurd h (by omega)⟩, fun x hx => by cases hx⟩
  · refine ⟨(List.range len).map fun q => mk (G q), by simp, ⟨by simp, hm, fun _ => ⟨ad, rfl, fun j p hj => ?_⟩⟩, fun x hx => ?_⟩
    · have hjl : j < len := by
        have := (List.getElem?_eq_some_iff.mp hj).1
        simpa using this
      have e : p = mk (G j) := by
        rw [List.getElem?_map, List.getElem?_range hjl] at hj
        exact (Option.some.inj hj).symm
      subst e
      refine ⟨_, by rw [hs]; simp, hK (G j), fun i u hu => ?_⟩
      have hi : i < m := by
        have := (List.getElem?_eq_some_iff.mp hu).1
        simpa using this
      rw [List.getElem?_map, List.getElem?_range hi] at hu
      rw [← Option.some.inj hu, hs]
      exact (hG j hjl i hi).1
    · obtain ⟨q, hq, rfl⟩ := List.mem_map.mp hx
      exact ⟨G q, rfl, fun j hj => (hG q (List.mem_range.mp hq) j hj).2⟩
end Go.Proofs.Ytggjdcijplgpdaa.D
