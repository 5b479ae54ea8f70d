import Derived.Test.YtggjdcijplgpdaaProg
import Derived.Lib.SmallJoins
import Derived.Deep.Slices
import Derived.Deep.Fields
import Derived.ChangeSame
import Derived.ChangeOld
import Derived.SizedLaws
import Derived.ChangeSlices
namespace Go.Proofs.Ytggjdcijplgpdaa.Open
open Go.ChangeShapes Go.WideShapes Go.Deep Go.Joins Go.RowKit
set_option linter.unusedVariables false
section
variable {H : Type} {enc : TypeId × Value → H} {P : Program} {w : World} {base : Nat} {spare : Nat → Bool} {held : Bool}
theorem ints_of {e : TypeId} {fs : Array Field} {kd : Nat → IntKind} {fuel : Nat} {cs : List Value} {x : DataW H × List MemPlace} (he : P.underlying e = some (.struct fs)) (hone : oneCellFields P fs = true)
    (hk : ∀ (j : Nat) (f : Field), fs[j]? = some f → P.underlying f.type = some (.int (kd j))) (hl : cs.length = fs.size) (h : DataW.trod enc P w base spare held fuel e cs = some x) :
    ∃ g : Nat → Int, ∀ j, j < fs.size → cs[j]? = some (.int (kd j) (g j)) ∧ (Lit.int (kd j) (g j)).wf = true := by
  obtain ⟨ys, n, _, _, _, hyl, hf⟩ := DataW.trod_struct he h
  have one : ∀ j, j < fs.size → ∃ m : Int, cs[j]? = some (.int (kd j) m) ∧ (Lit.int (kd j) m).wf = true := by
    intro j hj
    have hfj : fs[j]? = some fs[j] := Array.getElem?_eq_getElem hj
    obtain ⟨ho, hc⟩ := hone_of hone j fs[j] hfj
    have h1 := hf j fs[j] hfj
    rw [ho, hc] at h1
    have hjl : j < cs.length := by omega
    have hone' : (cs.drop j).take 1 = [cs[j]] := by
      rw [List.drop_eq_getElem_cons hjl]
      rfl
    rw [hone'] at h1
    have hys : ys[j]? = some (ys[j]'(by omega)) := List.getElem?_eq_getElem (by omega)
    obtain ⟨m, hm, _, hwf⟩ := DataW.trod_int (hk j fs[j] hfj) (h1.trans hys)
    refine ⟨m, ?_, hwf⟩
    rw [List.getElem?_eq_getElem hjl]
    simpa using hm
  refine ⟨fun j => if hj : j < fs.size then Classical.choose (one j hj) else 0, fun j hj => ?_⟩
  simp only [hj, dif_pos]
  exact Classical.choose_spec (one j hj)
theorem rows_of {t e : TypeId} {fs : Array Field} {kd : Nat → IntKind} {a : Option Addr} {len cap : Nat} {d : DataW H} {ps : List MemPlace} {ts : List TypeId} {ds : List (DataW H)} {i : Nat} {B : Nat}
    (ht : P.underlying t = some (.slice e)) (he : P.underlying e = some (.struct fs)) (hone : oneCellFields P fs = true) (hC : P.cellsOf e = fs.size)
    (hk : ∀ (j : Nat) (f : Field), fs[j]? = some f → P.underlying f.type = some (.int (kd j))) (hsz : (DataW.weightsEach P ts ds).all (· ≤ reachBytes) = true) (hti : ts[i]? = some t) (hdi : ds[i]? = some d) (hB : P.bytesOf e = B)
    (h : DataW.Trod enc P w base spare held t (.slice a len cap) d ps) :
    len ≤ cap ∧ len ≤ 9223372036854775807 ∧ len * B ≤ 140737488351232 ∧ ((a = none ∧ len = 0) ∨ ∃ ad, a = some ad ∧ ∃ G : Nat → Nat → Int, ∀ q, q < len → ∀ j, j < fs.size → w.cell? (ad.add (q * fs.size + j)) = some (.int (kd j) (G q j)) ∧ (Lit.int (kd j) (G q j)).wf = true) := by
  obtain ⟨fuel, hf⟩ := h
  rcases open_slice ht hf with ⟨hcs, _⟩ | ⟨ad, len', cap', m, n, D, Pl, hcs, hb, hl, hm, hmm, hx, hi⟩
  · simp [Value.cells] at hcs
    obtain ⟨rfl, rfl, rfl⟩ := hcs
    exact ⟨Nat.le_refl _, by omega, by simp, .inl ⟨rfl, rfl⟩⟩
  · simp [Value.cells] at hcs
    obtain ⟨rfl, rfl, rfl⟩ := hcs
    obtain ⟨hx, _⟩ := Prod.mk.inj hx
    have z := sized_slice hsz hti (by rw [hdi, hx]) ht
    rw [hB] at z
    have hlm : len ≤ m := by rw [hmm]; split <;> omega
    simp only [List.length_map, List.length_range] at z
    have hle : len * B ≤ (len + (m - len)) * B := Nat.mul_le_mul_right B (by omega)
    refine ⟨hl, by unfold maxLen at hm; omega, by unfold reachBytes at z; omega, .inr ⟨ad, rfl, ?_⟩⟩
    have one : ∀ q, q < len → ∃ g : Nat → Int, ∀ j, j < fs.size → w.cell? (ad.add (q * fs.size + j)) = some (.int (kd j) (g j)) ∧ (Lit.int (kd j) (g j)).wf = true := by
      intro q hq
      obtain ⟨cs', hc, ht'⟩ := hi q (by omega)
      rw [hC] at hc
      obtain ⟨_, hcl, hat⟩ := World.cells?_some hc
      obtain ⟨g, hg⟩ := ints_of he hone hk hcl ht'
      refine ⟨g, fun j hj => ?_⟩
      obtain ⟨h1, h2⟩ := hg j hj
      refine ⟨?_, h2⟩
      rw [← Go.Deep.add_add, hat j hj, h1]
    refine ⟨fun q j => if hq : q < len then Classical.choose (one q hq) j else 0, fun q hq j hj => ?_⟩
    simp only [hq, dif_pos]
    exact Classical.choose_spec (one q hq) j hj
end
end Go.Proofs.Ytggjdcijplgpdaa.Open
