import Derived.Test.YthkccaclmodjiaaProg
import Derived.Lib.SmallJoins
import Derived.Deep.Slices
import Derived.Deep.Fields
import Derived.ChangeSame
import Derived.ChangeOld
import Derived.SizedLaws
import Derived.ChangeSlices
import Derived.Test.YthkccaclmodjiaazETwoIronsI0
import Derived.Test.YthkccaclmodjiaazETwoIronsWords1
import Derived.Test.YthkccaclmodjiaazETwoIronsWords2
import Derived.Test.YthkccaclmodjiaazETwoIronsI59
import Derived.Test.YthkccaclmodjiaazETwoIronsEListsPiece
import Derived.Test.YthkccaclmodjiaazETwoIronsI9
import Derived.Test.YthkccaclmodjiaazETwoIronsEBLem1
import Derived.Test.YthkccaclmodjiaazETwoIronsEBSearch
import Derived.Test.YthkccaclmodjiaazETwoIronsESortedV
import Derived.Test.YthkccaclmodjiaazETwoIronsEShortest1
import Derived.Test.YthkccaclmodjiaazETwoIronsETwo10
import Derived.Test.YthkccaclmodjiaazETwoIronsETwo10b
import Derived.Test.YthkccaclmodjiaazETwoIronsETwo9
section
namespace Go.Proofs.Ythkccaclmodjiaa.Open
open Go.ChangeShapes Go.WideShapes Go.Deep Go.Joins Go.RowKit
set_option linter.unusedVariables false
section
variable {H : Type} {enc : TypeId × Value → H} {P : Program} {w : World} {base : Nat} {spare : Nat → Bool} {held : Bool}
theorem ints_of {e : TypeId} {fs : Array Field} {kd : Nat → IntKind} {fuel : Nat} {cs : List Value} {x : DataW H × List MemPlace} (he : P.underlying e = some (.struct fs)) (hone : oneCellFields P fs = true)
    (hk : ∀ (j : Nat) (f : Field), fs[j]? = some f → P.underlying f.type = some (.int (kd j))) (hl : cs.length = fs.size) (h : DataW.trod enc P w base spare held fuel e cs = some x) :
    ∃ g : Nat → Int, ∀ j, j < fs.size → cs[j]? = some (.int (kd j) (g j)) ∧ (Lit.int (kd j) (g j)).wf = true := by
  obtain ⟨ys, n, _, _, _, hyl, hf⟩ := DataW.trod_struct he h
  have one : ∀ j, j < fs.size → ∃ m : Int, cs[j]? = some (.int (kd j) m) ∧ (Lit.int (kd j) m).wf = true := by
    intro j hj
    have hfj : fs[j]? = some fs[j] := Array.getElem?_eq_getElem hj
    obtain ⟨ho, hc⟩ := hone_of hone j fs[j] hfj
    have h1 := hf j fs[j] hfj
    rw [ho, hc] at h1
    have hjl : j < cs.length := by omega
    have hone' : (cs.drop j).take 1 = [cs[j]] := by
      rw [List.drop_eq_getElem_cons hjl]
      rfl
    rw [hone'] at h1
    have hys : ys[j]? = some (ys[j]'(by omega)) := List.getElem?_eq_getElem (by omega)
    obtain ⟨m, hm, _, hwf⟩ := DataW.trod_int (hk j fs[j] hfj) (h1.trans hys)
    refine ⟨m, ?_, hwf⟩
    rw [List.getElem?_eq_getElem hjl]
    simpa using hm
  refine ⟨fun j => if hj : j < fs.size then Classical.choose (one j hj) else 0, fun j hj => ?_⟩
  simp only [hj, dif_pos]
  exact Classical.choose_spec (one j hj)
theorem rows_of {t e : TypeId} {fs : Array Field} {kd : Nat → IntKind} {a : Option Addr} {len cap : Nat} {d : DataW H} {ps : List MemPlace} {ts : List TypeId} {ds : List (DataW H)} {i : Nat} {B : Nat}
    (ht : P.underlying t = some (.slice e)) (he : P.underlying e = some (.struct fs)) (hone : oneCellFields P fs = true) (hC : P.cellsOf e = fs.size)
    (hk : ∀ (j : Nat) (f : Field), fs[j]? = some f → P.underlying f.type = some (.int (kd j))) (hsz : (DataW.weightsEach P ts ds).all (· ≤ reachBytes) = true) (hti : ts[i]? = some t) (hdi : ds[i]? = some d) (hB : P.bytesOf e = B)
    (h : DataW.Trod enc P w base spare held t (.slice a len cap) d ps) :
    len ≤ cap ∧ len ≤ 9223372036854775807 ∧ len * B ≤ 140737488351232 ∧ ((a = none ∧ len = 0) ∨ ∃ ad, a = some ad ∧ ∃ G : Nat → Nat → Int, ∀ q, q < len → ∀ j, j < fs.size → w.cell? (ad.add (q * fs.size + j)) = some (.int (kd j) (G q j)) ∧ (Lit.int (kd j) (G q j)).wf = true) := by
  obtain ⟨fuel, hf⟩ := h
  rcases open_slice ht hf with ⟨hcs, _⟩ | ⟨ad, len', cap', m, n, D, Pl, hcs, hb, hl, hm, hmm, hx, hi⟩
  · simp [Value.cells] at hcs
    obtain ⟨rfl, rfl, rfl⟩ := hcs
    exact ⟨Nat.le_refl _, by omega, by simp, .inl ⟨rfl, rfl⟩⟩
  · simp [Value.cells] at hcs
    obtain ⟨rfl, rfl, rfl⟩ := hcs
    obtain ⟨hx, _⟩ := Prod.mk.inj hx
    have z := sized_slice hsz hti (by rw [hdi, hx]) ht
    rw [hB] at z
    have hlm : len ≤ m := by rw [hmm]; split <;> omega
    simp only [List.length_map, List.length_range] at z
    have hle : len * B ≤ (len + (m - len)) * B := Nat.mul_le_mul_right B (by omega)
    refine ⟨hl, by unfold maxLen at hm; omega, by unfold reachBytes at z; omega, .inr ⟨ad, rfl, ?_⟩⟩
    have one : ∀ q, q < len → ∃ g : Nat → Int, ∀ j, j < fs.size → w.cell? (ad.add (q * fs.size + j)) = some (.int (kd j) (g j)) ∧ (Lit.int (kd j) (g j)).wf = true := by
      intro q hq
      obtain ⟨cs', hc, ht'⟩ := hi q (by omega)
      rw [hC] at hc
      obtain ⟨_, hcl, hat⟩ := World.cells?_some hc
      obtain ⟨g, hg⟩ := ints_of he hone hk hcl ht'
      refine ⟨g, fun j hj => ?_⟩
      obtain ⟨h1, h2⟩ := hg j hj
      refine ⟨?_, h2⟩
      rw [← Go.Deep.add_add, hat j hj, h1]
    refine ⟨fun q j => if hq : q < len then Classical.choose (one q hq) j else 0, fun q hq j hj => ?_⟩
    simp only [hq, dif_pos]
    exact Classical.choose_spec (one q hq) j hj
theorem agg_of {r : Reach} {b0 : Nat} {t : TypeId} {fs : Array Field} {kd : Nat → IntKind} {v : Value} {d : DataW H} {p : List MemPlace} (hs : P.underlying t = some (.struct fs)) (hone : oneCellFields P fs = true) (hC : P.cellsOf t = fs.size)
    (hk : ∀ (j : Nat) (f : Field), fs[j]? = some f → P.underlying f.type = some (.int (kd j))) (hv : Value.okWide P w r b0 t v) (h : DataW.Trod enc P w base spare held t v d p) :
    ∃ (cs : Array Value) (g : Nat → Int), v = .agg cs ∧ cs.size = fs.size ∧ ∀ j, j < fs.size → cs[j]? = some (.int (kd j) (g j)) ∧ (Lit.int (kd j) (g j)).wf = true := by
  obtain ⟨cs, rfl, hsz⟩ := okWide_struct hs hv
  obtain ⟨fuel, hf⟩ := h
  have hl : (Value.agg cs).cells.toList.length = fs.size := by simp [Value.cells, hsz, hC]
  obtain ⟨g, hg⟩ := ints_of hs hone hk hl hf
  exact ⟨cs, g, rfl, hsz.trans hC, fun j hj => by simpa [Value.cells] using hg j hj⟩
theorem agg_list {m : Nat} {cs : Array Value} {f : Nat → Value} (hz : cs.size = m) (h : ∀ j, j < m → cs[j]? = some (f j)) : cs = ((List.range m).map f).toArray := by
  apply Array.ext_getElem?
  intro j
  by_cases c : j < m
  · rw [h j c]; simp [c]
  · rw [Array.getElem?_eq_none (by omega)]; simp [c]
end
end Go.Proofs.Ythkccaclmodjiaa.Open
end
section
namespace Go.Proofs.Ythkccaclmodjiaa.I
open Go.RowKit Go.Proofs.YthkccaclmodjiaaW.PrintWords Go.Proofs.YthkccaclmodjiaaW.PrintLast Go.Proofs.YthkccaclmodjiaaW.PrintMore
attribute [local go_sem] max2_int min2_int max_two min_two max_three min_three max_four min_four
set_option linter.unusedVariables false
set_option linter.unusedSimpArgs false
theorem row_C {α : Type} (d : Kd α) (m : Nat) (mk : (Nat → Int) → α) (kd : Nat → IntKind) {W : World} {a : Option Addr} {len : Nat} (hK : ∀ g, d.K W (mk g) ((List.range m).map fun j => .int (kd j) (g j))) (hs : d.sz = m) (hm : len ≤ 9223372036854775807)
    (h : (a = none ∧ len = 0) ∨ ∃ ad, a = some ad ∧ ∃ G : Nat → Nat → Int, ∀ q, q < len → ∀ j, j < m → W.cell? (ad.add (q * m + j)) = some (.int (kd j) (G q j)) ∧ (Lit.int (kd j) (G q j)).wf = true) :
    ∃ l : List α, l.length = len ∧ Kd.C d W a len l ∧ ∀ x ∈ l, ∃ g : Nat → Int, x = mk g ∧ ∀ j, j < m → (Lit.int (kd j) (g j)).wf = true := by
  rcases h with ⟨rfl, rfl⟩ | ⟨ad, rfl, G, hG⟩
  · exact ⟨[], rfl, ⟨rfl, by omega, fun h => absurd h (by omega)⟩, fun x hx => by cases hx⟩
  · refine ⟨(List.range len).map fun q => mk (G q), by simp, ⟨by simp, hm, fun _ => ⟨ad, rfl, fun j p hj => ?_⟩⟩, fun x hx => ?_⟩
    · have hjl : j < len := by
        have := (List.getElem?_eq_some_iff.mp hj).1
        simpa using this
      have e : p = mk (G j) := by
        rw [List.getElem?_map, List.getElem?_range hjl] at hj
        exact (Option.some.inj hj).symm
      subst e
      refine ⟨_, by rw [hs]; simp, hK (G j), fun i u hu => ?_⟩
      have hi : i < m := by
        have := (List.getElem?_eq_some_iff.mp hu).1
        simpa using this
      rw [List.getElem?_map, List.getElem?_range hi] at hu
      rw [← Option.some.inj hu, hs]
      exact (hG j hjl i hi).1
    · obtain ⟨q, hq, rfl⟩ := List.mem_map.mp hx
      exact ⟨G q, rfl, fun j hj => (hG q (List.mem_range.mp hq) j hj).2⟩
end Go.Proofs.Ythkccaclmodjiaa.I
end
section
namespace Go.Proofs.Ythkccaclmodjiaa.I
open Go.RowKit Go.Proofs.YthkccaclmodjiaaW.PrintWords Go.Proofs.YthkccaclmodjiaaW.PrintLast Go.Proofs.YthkccaclmodjiaaW.PrintMore
def laws_FnExactTwoIrons.Pure : Prop := ∀ (a0_0 : Int) (a0_1 : Int) (l1 : List S69), (Lit.int .i8 a0_0).wf = true → (Lit.int .i8 a0_1).wf = true → l1.length * 4 ≤ 140737488351232 → (∀ x ∈ l1, (Lit.int .i8 x.f0).wf = true ∧ (Lit.int .i8 x.f1).wf = true ∧ (Lit.int .i16 x.f2).wf = true) → ∃ k, laws_FnExactTwoIrons.f k a0_0 a0_1 l1 = some true
end Go.Proofs.Ythkccaclmodjiaa.I
end
section
namespace Go.Proofs.Ythkccaclmodjiaa.I
open Go.RowKit Go.Proofs.YthkccaclmodjiaaW.PrintWords Go.Proofs.YthkccaclmodjiaaW.PrintLast Go.Proofs.YthkccaclmodjiaaW.PrintMore
attribute [local go_sem] max2_int min2_int max_two min_two max_three min_three max_four min_four
set_option linter.unusedVariables false
set_option linter.unusedSimpArgs false
theorem laws_eqInt64S.same (l : List Int) (hm : l.length ≤ 4611686018427387904) : Ev (fun k => laws_eqInt64S.f k l l) true := by
  refine Ev.congr (f := fun k => laws_eqInt64S.l0 k l l 0) (fun k => by unfold laws_eqInt64S.f; rw [if_pos rfl]) ?_
  refine Ev.loop (L := fun k s => laws_eqInt64S.l0 k l l s) (fun s d => ∃ i : Nat, i + d = l.length ∧ s = (i : Int)) ?_ l.length 0 ⟨0, by omega, rfl⟩
  rintro s d ⟨i, hd, rfl⟩
  by_cases c : i < l.length
  · refine .inr ⟨((i + 1 : Nat) : Int), d - 1, by omega, ⟨i + 1, by omega, rfl⟩, 0, fun k _ => ?_⟩
    rw [laws_eqInt64S.l0]
    rw [if_pos (by omega), if_pos (by omega), if_pos (by omega), if_pos rfl, w64 _ (by omega) (by omega)]
    rfl
  · refine .inl ⟨0, fun k _ => ?_⟩
    rw [laws_eqInt64S.l0]
    rw [if_neg (by omega)]
def marksInt64 (a : Int) : Nat → List Int
  | 0 => []
  | n + 1 => marksInt64 a n ++ [a + (n : Int)]
theorem marksInt64_len (a : Int) : ∀ n, (marksInt64 a n).length = n
  | 0 => rfl
  | n + 1 => by simp [marksInt64, marksInt64_len a n]
theorem marksInt64_at (a : Int) : ∀ (n i : Nat), i < n → (marksInt64 a n)[i]? = some (a + (i : Int))
  | 0, i, h => by omega
  | n + 1, i, h => by
    unfold marksInt64
    by_cases c : i < n
    · rw [List.getElem?_append_left (by rw [marksInt64_len]; exact c)]
      exact marksInt64_at a n i c
    · obtain rfl : i = n := by omega
      rw [List.getElem?_append_right (by rw [marksInt64_len]; omega), marksInt64_len]
      simp
theorem laws_markInt64S.ev (l : List Int) (a : Int) (h0 : 0 ≤ a) (h1 : a ≤ 4611686018427387904) (hm : l.length ≤ 2305843009213693952) : Ev (fun k => laws_markInt64S.f k l a) (a + (l.length : Int), marksInt64 a l.length) := by
  refine Ev.loop (L := fun k s => laws_markInt64S.l0 k s.1 s.2.1 s.2.2) (fun s d => ∃ i : Nat, i + d = l.length ∧ s = (marksInt64 a i ++ l.drop i, a + (i : Int), (i : Int))) ?_ l.length (l, a, 0) ⟨0, by omega, by simp [marksInt64]⟩
  rintro ⟨x, y, z⟩ d ⟨i, hd, e⟩
  cases e
  have hl : (marksInt64 a i ++ l.drop i).length = l.length := by rw [List.length_append, marksInt64_len, List.length_drop]; omega
  by_cases c : i < l.length
  · refine .inr ⟨(marksInt64 a (i + 1) ++ l.drop (i + 1), a + ((i + 1 : Nat) : Int), ((i + 1 : Nat) : Int)), d - 1, by omega, ⟨i + 1, by omega, rfl⟩, 0, fun k _ => ?_⟩
    dsimp only
    rw [laws_markInt64S.l0]
    rw [if_pos (by rw [hl]; omega), if_pos (by omega), w64 _ (by omega) (by omega), w64 _ (by omega) (by omega)]
    have hs : (marksInt64 a i ++ l.drop i).set ((i : Int) : Int).toNat (a + (i : Int)) = marksInt64 a (i + 1) ++ l.drop (i + 1) := by
      rw [Int.toNat_natCast, List.set_append_right _ _ (by rw [marksInt64_len]; omega), marksInt64_len, Nat.sub_self, List.drop_eq_getElem_cons c, List.set_cons_zero]
      simp only [marksInt64, List.append_assoc, List.cons_append, List.nil_append]
    rw [hs]
    have e1 : a + (i : Int) + 1 = a + ((i + 1 : Nat) : Int) := by omega
    rw [e1]
    rfl
  · obtain rfl : i = l.length := by omega
    refine .inl ⟨0, fun k _ => ?_⟩
    dsimp only
    rw [laws_markInt64S.l0]
    rw [if_neg (by rw [hl]; omega)]
    simp
theorem laws_heldInt64S.ev (a : Int) (n : Nat) (h0 : 0 ≤ a) (h1 : a ≤ 4611686018427387904) (hm : n ≤ 2305843009213693952) : Ev (fun k => laws_heldInt64S.f k (marksInt64 a n) a) (a + (n : Int)) := by
  refine Ev.loop (L := fun k s => laws_heldInt64S.l0 k (marksInt64 a n) s.1 s.2) (fun s d => ∃ i : Nat, i + d = n ∧ s = (a + (i : Int), (i : Int))) ?_ n (a, 0) ⟨0, by omega, by simp⟩
  rintro ⟨y, z⟩ d ⟨i, hd, e⟩
  cases e
  have hl := marksInt64_len a n
  by_cases c : i < n
  · refine .inr ⟨(a + ((i + 1 : Nat) : Int), ((i + 1 : Nat) : Int)), d - 1, by omega, ⟨i + 1, by omega, rfl⟩, 0, fun k _ => ?_⟩
    dsimp only
    rw [laws_heldInt64S.l0]
    have hr : rd (marksInt64 a n) (i : Int) = a + (i : Int) := by
      show (marksInt64 a n).getD i 0 = _
      rw [List.getD_eq_getElem?_getD, marksInt64_at a n i c]
      rfl
    rw [if_pos (by rw [hl]; omega), if_pos (by omega), if_pos hr, w64 _ (by omega) (by omega), w64 _ (by omega) (by omega)]
    have e1 : a + (i : Int) + 1 = a + ((i + 1 : Nat) : Int) := by omega
    rw [e1]
    rfl
  · obtain rfl : i = n := by omega
    refine .inl ⟨0, fun k _ => ?_⟩
    dsimp only
    rw [laws_heldInt64S.l0]
    rw [if_neg (by rw [hl]; omega)]
end Go.Proofs.Ythkccaclmodjiaa.I
end
section
namespace Go.Proofs.Ythkccaclmodjiaa.I
open Go.RowKit Go.Proofs.YthkccaclmodjiaaW.PrintWords Go.Proofs.YthkccaclmodjiaaW.PrintLast Go.Proofs.YthkccaclmodjiaaW.PrintMore
attribute [local go_sem] max2_int min2_int max_two min_two max_three min_three max_four min_four
set_option linter.unusedVariables false
set_option linter.unusedSimpArgs false
def twoRes (x y : Int) (l : List S57) : List Int × Int × Int := if codeIron x y l = 0 then (wayOf (twoOf (timeP x y) l), lowOf (twoOf (timeP x y) l), 0) else ([], 0, codeIron x y l)
theorem twoBy_ev {g : Nat → Option Int} {x y : Int} {l : List S57} (hg : Ev g (codeIron x y l)) (f : List S57 → Int) (ht : Typed l) (hx : -128 ≤ x ∧ x ≤ 127) (hy : -128 ≤ y ∧ y ≤ 127) (hf : sureB x y l = true → twoOf f l = twoOf (timeP x y) l) : Ev (fun k => twoBy (g k) f x y l) (twoRes x y l) := by
  refine Ev.bind hg ?_
  unfold twoRes
  by_cases c : codeIron x y l = 0
  · have s := sureB_of x y l ht hx hy c
    rw [if_pos c, if_pos c, if_pos s, hf s]
    exact Ev.const rfl
  · rw [if_neg c, if_neg c]
    exact Ev.const rfl
theorem twoSpec_ev (x y : Int) (l : List S57) (hm : l.length ≤ 4611686018427387904) (ht : Typed l) (hx : -128 ≤ x ∧ x ≤ 127) (hy : -128 ≤ y ∧ y ≤ 127) : Ev (fun k => spec_TwoIrons.f k x y l) (twoRes x y l) :=
  twoBy_ev (asked_ev x y l hm) _ ht hx hy (fun s => (two_same s).trans (timeP_two s).symm)
theorem twoImpl_ev (x y : Int) (l : List S57) (ht : Typed l) (hx : -128 ≤ x ∧ x ≤ 127) (hy : -128 ≤ y ∧ y ≤ 127) : Ev (fun k => impl_TwoIrons.f k x y l) (twoRes x y l) :=
  twoBy_ev (ironCode_ev x y l) _ ht hx hy (fun _ => rfl)
theorem twoStep_len {f : List S57 → Int} {l : List S57} {st : Option (List Int × Int)} {b : List Int} {n : Nat} (hb : b.length = n) (h : ∀ p, st = some p → p.1.length = n) : ∀ p, twoStep f l st b = some p → p.1.length = n := by
  intro p hp
  cases st with
  | none =>
    have hp : some (b, mx (f (partOf 0 b l)) (f (partOf 1 b l))) = some p := hp
    cases hp
    exact hb
  | some q =>
    have hp : (if mx (f (partOf 0 b l)) (f (partOf 1 b l)) < q.2 then some (b, mx (f (partOf 0 b l)) (f (partOf 1 b l))) else some (q.1, q.2)) = some p := hp
    by_cases c : mx (f (partOf 0 b l)) (f (partOf 1 b l)) < q.2
    · rw [if_pos c] at hp
      cases hp
      exact hb
    · rw [if_neg c] at hp
      cases hp
      exact h q rfl
theorem overSets_len (f : List S57 → Int) (l : List S57) : ∀ s, ∀ p, overSets f l s = some p → p.1.length = l.length
  | 0, p, h => by cases h
  | s + 1, p, h => by
    rw [overSets_succ] at h
    exact twoStep_len (bitsOf_len _ _) (overSets_len f l s) p h
theorem wayOf_len (f : List S57 → Int) (l : List S57) : (wayOf (twoOf f l)).length ≤ l.length := by
  have h := overSets_len f l (2 ^ l.length)
  rw [overSets_all] at h
  cases e : twoOf f l with
  | none => exact Nat.zero_le _
  | some p => exact Nat.le_of_eq (h p e)
theorem twoRes_len (x y : Int) (l : List S57) (ht : Typed l) (hx : -128 ≤ x ∧ x ≤ 127) (hy : -128 ≤ y ∧ y ≤ 127) : (twoRes x y l).1.length ≤ 1048576 := by
  unfold twoRes
  by_cases c : codeIron x y l = 0
  · have s := sureB_of x y l ht hx hy c
    rw [if_pos c]
    have h8 := (sureB_iff.mp s).2.2.1
    have := wayOf_len (timeP x y) l
    show (wayOf _).length ≤ _
    omega
  · rw [if_neg c]
    exact Nat.zero_le _
end Go.Proofs.Ythkccaclmodjiaa.I
end
