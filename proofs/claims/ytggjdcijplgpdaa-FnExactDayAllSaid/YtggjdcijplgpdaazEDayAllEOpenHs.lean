import Derived.Test.YtggjdcijplgpdaazEDayAllEOpen2
import Derived.Test.YtggjdcijplgpdaazEDayAllEToStS
import Derived.Test.YtggjdcijplgpdaazEDayAllEVHouse
import Derived.Test.YtggjdcijplgpdaazEDayAllEVStock
import Derived.Test.YtggjdcijplgpdaazEDayAllEIdx8
import Derived.Test.YtggjdcijplgpdaaProg
import Derived.OpenShut
import Derived.Lib.SmallJoins
import Derived.Deep.Slices
import Derived.Deep.Fields
import Derived.ChangeSame
import Derived.ChangeOld
import Derived.SizedLaws
import Derived.ChangeSlices
import Derived.KernelRfl
namespace Go.Proofs.Ytggjdcijplgpdaa.H
open Go.RowKit Go.Proofs.YtggjdcijplgpdaaW.PrintWords Go.Proofs.YtggjdcijplgpdaaW.PrintLast Go.Proofs.YtggjdcijplgpdaaW.PrintMore
attribute [local go_sem] max2_int min2_int max_two min_two max_three min_three max_four min_four
set_option linter.unusedVariables false
set_option linter.unusedSimpArgs false
open Go.ChangeShapes Go.WideShapes Go.Deep Go.Joins
section
variable {H : Type} {enc : TypeId × Value → H} {w : World} {base : Nat} {spare : Nat → Bool} {held : Bool}
theorem arr8_of {fuel : Nat} {cs : List Value} {x : DataW H × List MemPlace} (h : DataW.trod enc Try.prog w base spare held fuel 53 cs = some x) : ∃ g : Nat → Int, ∀ j, j < 8 → cs[j]? = some (.int .i16 (g j)) ∧ (Lit.int .i16 (g j)).wf = true := by
  obtain ⟨xs, m, _, _, hcl, hxl, hi⟩ := DataW.trod_array Try.underlying53 h
  have h1 : Try.prog.cellsOf 23 = 1 := by kernel_rfl
  have h8 : Try.prog.cellsOf 53 = 8 := by kernel_rfl
  rw [h8] at hcl
  have one : ∀ j, j < 8 → ∃ m : Int, cs[j]? = some (.int .i16 m) ∧ (Lit.int .i16 m).wf = true := by
    intro j hj
    have hq := hi j hj
    rw [h1, Nat.mul_one] at hq
    have hjl : j < cs.length := by omega
    have hone' : (cs.drop j).take 1 = [cs[j]] := by
      rw [List.drop_eq_getElem_cons hjl]
      rfl
    rw [hone'] at hq
    have hys : xs[j]? = some (xs[j]'(by omega)) := List.getElem?_eq_getElem (by omega)
    obtain ⟨m, hm, _, hwf⟩ := DataW.trod_int Try.underlying23 (hq.trans hys)
    refine ⟨m, ?_, hwf⟩
    rw [List.getElem?_eq_getElem hjl]
    simpa using hm
  refine ⟨fun j => if hj : j < 8 then Classical.choose (one j hj) else 0, fun j hj => ?_⟩
  simp only [hj, dif_pos]
  exact Classical.choose_spec (one j hj)
def kdS (j : Nat) : IntKind := if j < 24 then .i16 else .i32
theorem stock_of {fuel : Nat} {cs : List Value} {x : DataW H × List MemPlace} (h : DataW.trod enc Try.prog w base spare held fuel 145 cs = some x) : ∃ g : Nat → Int, ∀ j, j < 25 → cs[j]? = some (.int (kdS j) (g j)) ∧ (Lit.int (kdS j) (g j)).wf = true := by
  obtain ⟨ys, n, _, _, hcl, hyl, hf⟩ := DataW.trod_struct Try.underlying145 h
  have h25 : Try.prog.cellsOf 145 = 25 := by kernel_rfl
  have h8 : Try.prog.cellsOf 53 = 8 := by kernel_rfl
  have h1 : Try.prog.cellsOf 21 = 1 := by kernel_rfl
  rw [h25] at hcl
  have hl4 : ys.length = 4 := hyl
  have hys : ∀ i (hi : i < 4), ys[i]? = some (ys[i]'(by omega)) := fun i hi => List.getElem?_eq_getElem (by omega)
  have f0 : DataW.trod enc Try.prog w base spare held n 53 ((cs.drop 0).take (Try.prog.cellsOf 53)) = ys[0]? := hf 0 _ rfl
  have f1 : DataW.trod enc Try.prog w base spare held n 53 ((cs.drop 8).take (Try.prog.cellsOf 53)) = ys[1]? := hf 1 _ rfl
  have f2 : DataW.trod enc Try.prog w base spare held n 53 ((cs.drop 16).take (Try.prog.cellsOf 53)) = ys[2]? := hf 2 _ rfl
  have f3 : DataW.trod enc Try.prog w base spare held n 21 ((cs.drop 24).take (Try.prog.cellsOf 21)) = ys[3]? := hf 3 _ rfl
  rw [h8] at f0 f1 f2
  rw [h1] at f3
  obtain ⟨g0, hg0⟩ := arr8_of (f0.trans (hys 0 (by omega)))
  obtain ⟨g1, hg1⟩ := arr8_of (f1.trans (hys 1 (by omega)))
  obtain ⟨g2, hg2⟩ := arr8_of (f2.trans (hys 2 (by omega)))
  obtain ⟨m, hm, _, hwf⟩ := DataW.trod_int Try.underlying21 (f3.trans (hys 3 (by omega)))
  refine ⟨fun j => if j < 8 then g0 j else if j < 16 then g1 (j - 8) else if j < 24 then g2 (j - 16) else m, fun j hj => ?_⟩
  by_cases c0 : j < 8
  · simp only [if_pos c0, kdS, if_pos (show j < 24 by omega)]
    have := (hg0 j c0).1
    rw [List.getElem?_take_of_lt c0, List.getElem?_drop, Nat.zero_add] at this
    exact ⟨this, (hg0 j c0).2⟩
  · by_cases c1 : j < 16
    · simp only [if_neg c0, if_pos c1, kdS, if_pos (show j < 24 by omega)]
      have := (hg1 (j - 8) (by omega)).1
      rw [List.getElem?_take_of_lt (by omega), List.getElem?_drop, show 8 + (j - 8) = j by omega] at this
      exact ⟨this, (hg1 (j - 8) (by omega)).2⟩
    · by_cases c2 : j < 24
      · simp only [if_neg c0, if_neg c1, if_pos c2, kdS]
        have := (hg2 (j - 16) (by omega)).1
        rw [List.getElem?_take_of_lt (by omega), List.getElem?_drop, show 16 + (j - 16) = j by omega] at this
        exact ⟨this, (hg2 (j - 16) (by omega)).2⟩
      · obtain rfl : j = 24 := by omega
        simp only [if_neg c0, if_neg c1, if_neg c2, kdS]
        refine ⟨?_, hwf⟩
        have : ((cs.drop 24).take 1)[0]? = some (.int .i32 m) := by rw [hm]; rfl
        rw [List.getElem?_take_of_lt (by omega), List.getElem?_drop] at this
        exact this
set_option maxRecDepth 100000 in
theorem stocks_of {a : Option Addr} {len cap : Nat} {fuel : Nat} {x : DataW H × List MemPlace} (hf : DataW.trod enc Try.prog w base spare held fuel 22 [.slice a len cap] = some x) :
    len ≤ cap ∧ len ≤ 9223372036854775807 ∧ ((a = none ∧ len = 0) ∨ ∃ ad, a = some ad ∧ ∃ G : Nat → Nat → Int, ∀ q, q < len → ∀ j, j < 25 → w.cell? (ad.add (q * 25 + j)) = some (.int (kdS j) (G q j)) ∧ (Lit.int (kdS j) (G q j)).wf = true) := by
  rcases open_slice Try.underlying22 hf with ⟨hcs, _⟩ | ⟨ad, len', cap', m, n, D, Pl, hcs, hb, hl, hm, hmm, hx, hi⟩
  · simp at hcs
    obtain ⟨rfl, rfl, rfl⟩ := hcs
    exact ⟨Nat.le_refl _, by omega, .inl ⟨rfl, rfl⟩⟩
  · simp at hcs
    obtain ⟨rfl, rfl, rfl⟩ := hcs
    have h25 : Try.prog.cellsOf 145 = 25 := by kernel_rfl
    have hlm : len ≤ m := by rw [hmm]; split <;> omega
    refine ⟨hl, by unfold maxLen at hm; omega, .inr ⟨ad, rfl, ?_⟩⟩
    have one : ∀ q, q < len → ∃ g : Nat → Int, ∀ j, j < 25 → w.cell? (ad.add (q * 25 + j)) = some (.int (kdS j) (g j)) ∧ (Lit.int (kdS j) (g j)).wf = true := by
      intro q hq
      obtain ⟨cs', hc, ht'⟩ := hi q (by omega)
      rw [h25] at hc
      obtain ⟨_, hcl, hat⟩ := World.cells?_some hc
      obtain ⟨g, hg⟩ := stock_of ht'
      refine ⟨g, fun j hj => ?_⟩
      obtain ⟨h1, h2⟩ := hg j hj
      refine ⟨?_, h2⟩
      rw [← Go.Deep.add_add, hat j hj, h1]
    refine ⟨fun q j => if hq : q < len then Classical.choose (one q hq) j else 0, fun q hq j hj => ?_⟩
    simp only [hq, dif_pos]
    exact Classical.choose_spec (one q hq) j hj
def mk145 (g : Nat → Int) : S145 := ⟨⟨g 0, g 1, g 2, g 3, g 4, g 5, g 6, g 7⟩, ⟨g 8, g 9, g 10, g 11, g 12, g 13, g 14, g 15⟩, ⟨g 16, g 17, g 18, g 19, g 20, g 21, g 22, g 23⟩, g 24⟩
theorem mk145_K (w : World) (g : Nat → Int) : k145.K w (mk145 g) ((List.range 25).map fun j => .int (kdS j) (g j)) := k145_mk w (mk145 g)
theorem mk145_typed {g : Nat → Int} (h : ∀ j, j < 25 → (Lit.int (kdS j) (g j)).wf = true) : TypedSt (toSt (mk145 g)) := by
  have b : ∀ j, j < 25 → -2147483648 ≤ g j ∧ g j < 2147483648 := by
    intro j hj
    have := h j hj
    unfold kdS at this
    split at this <;> simp [Lit.wf, IntKind.min, IntKind.max, IntKind.bits, IntKind.signed] at this <;> omega
  intro x hx
  have hx' : x ∈ (List.range 25).map g := hx
  obtain ⟨j, hj, rfl⟩ := List.mem_map.mp hx'
  exact b j (List.mem_range.mp hj)
set_option maxRecDepth 100000 in
theorem house_of {r : Reach} {b0 : Nat} {v : Value} {d : DataW H} {p : List MemPlace} (hv : Value.okWide Try.prog w r b0 26 v) (h : DataW.Trod enc Try.prog w base spare held 26 v d p) :
    ∃ (A0 : Option Addr) (c0 : Nat) (l : List S145) (a1 a2 a3 : Int), v = .agg #[.slice A0 l.length c0, .int .i16 a1, .int .i8 a2, .int .i16 a3] ∧ Kd.C k145 w A0 l.length l ∧ l.length ≤ c0 ∧ TypedH (l.map toSt) a1 a2 a3 := by
  obtain ⟨cs, rfl, hsz⟩ := okWide_struct Try.underlying26 hv
  obtain ⟨fuel, hf⟩ := h
  have h4 : Try.prog.cellsOf 26 = 4 := by kernel_rfl
  rw [h4] at hsz
  obtain ⟨ys, n, _, _, hcl, hyl, hfl⟩ := DataW.trod_struct Try.underlying26 hf
  have hl4 : ys.length = 4 := hyl
  have hys : ∀ i (hi : i < 4), ys[i]? = some (ys[i]'(by omega)) := fun i hi => List.getElem?_eq_getElem (by omega)
  have c1 : Try.prog.cellsOf 22 = 1 := by kernel_rfl
  have c2 : Try.prog.cellsOf 23 = 1 := by kernel_rfl
  have c3 : Try.prog.cellsOf 24 = 1 := by kernel_rfl
  obtain ⟨x0, x1, x2, x3, hx⟩ : ∃ x0 x1 x2 x3, cs = #[x0, x1, x2, x3] := by
    have hl : cs.toList.length = 4 := by simpa using hsz
    match hc : cs.toList, hl with
    | [x0, x1, x2, x3], _ => exact ⟨x0, x1, x2, x3, by rw [← Array.toArray_toList (xs := cs), hc]⟩
  subst hx
  have f0 : DataW.trod enc Try.prog w base spare held n 22 (((Value.agg #[x0, x1, x2, x3]).cells.toList.drop 0).take (Try.prog.cellsOf 22)) = ys[0]? := hfl 0 _ rfl
  have f1 : DataW.trod enc Try.prog w base spare held n 23 (((Value.agg #[x0, x1, x2, x3]).cells.toList.drop 1).take (Try.prog.cellsOf 23)) = ys[1]? := hfl 1 _ rfl
  have f2 : DataW.trod enc Try.prog w base spare held n 24 (((Value.agg #[x0, x1, x2, x3]).cells.toList.drop 2).take (Try.prog.cellsOf 24)) = ys[2]? := hfl 2 _ rfl
  have f3 : DataW.trod enc Try.prog w base spare held n 23 (((Value.agg #[x0, x1, x2, x3]).cells.toList.drop 3).take (Try.prog.cellsOf 23)) = ys[3]? := hfl 3 _ rfl
  rw [c1] at f0
  rw [c2] at f1 f3
  rw [c3] at f2
  have f0' : DataW.trod enc Try.prog w base spare held n 22 [x0] = _ := f0.trans (hys 0 (by omega))
  have f1' : DataW.trod enc Try.prog w base spare held n 23 [x1] = _ := f1.trans (hys 1 (by omega))
  have f2' : DataW.trod enc Try.prog w base spare held n 24 [x2] = _ := f2.trans (hys 2 (by omega))
  have f3' : DataW.trod enc Try.prog w base spare held n 23 [x3] = _ := f3.trans (hys 3 (by omega))
  obtain ⟨a1, e1, _, w1⟩ := DataW.trod_int Try.underlying23 f1'
  obtain ⟨a2, e2, _, w2⟩ := DataW.trod_int Try.underlying24 f2'
  obtain ⟨a3, e3, _, w3⟩ := DataW.trod_int Try.underlying23 f3'
  obtain ⟨A0, len, c0, e0⟩ : ∃ A len c, x0 = .slice A len c := by
    rcases open_slice Try.underlying22 f0' with ⟨hcs, _⟩ | ⟨ad, len', cap', m, n, D, Pl, hcs, _⟩
    · exact ⟨_, _, _, List.head_eq_of_cons_eq hcs⟩
    · exact ⟨_, _, _, List.head_eq_of_cons_eq hcs⟩
  have e1 := List.head_eq_of_cons_eq e1
  have e2 := List.head_eq_of_cons_eq e2
  have e3 := List.head_eq_of_cons_eq e3
  subst e0 e1 e2 e3
  obtain ⟨hc, hm, ho⟩ := stocks_of f0'
  obtain ⟨l, rfl, hr, hw⟩ := row_C k145 25 mk145 kdS (mk145_K w) rfl hm ho
  refine ⟨A0, c0, l, a1, a2, a3, rfl, hr, hc, fun s hs => ?_, ?_, ?_, ?_⟩
  · obtain ⟨y, hy, rfl⟩ := List.mem_map.mp hs
    obtain ⟨g, rfl, hg⟩ := hw y hy
    exact mk145_typed hg
  · simp [Lit.wf, IntKind.min, IntKind.max, IntKind.bits, IntKind.signed] at w1
    omega
  · simp [Lit.wf, IntKind.min, IntKind.max, IntKind.bits, IntKind.signed] at w2
    omega
  · simp [Lit.wf, IntKind.min, IntKind.max, IntKind.bits, IntKind.signed] at w3
    omega
set_option maxRecDepth 100000 in
theorem nums_of {fuel : Nat} {cs : List Value} {x : DataW H × List MemPlace} (h : DataW.trod enc Try.prog w base spare held fuel 49 cs = some x) : ∃ xs : List Int, (Kd.slice 2 (Kd.int .i64)).K w xs cs := by
  rcases open_ints Try.underlying49 Try.underlying2 (by kernel_rfl) h with ⟨hcs, _⟩ | ⟨a, len, cap, zs, hcs, _, hl, hm, hz, _, hcell, hwz⟩
  · exact ⟨[], none, 0, hcs, Nat.le_refl _, ⟨rfl, by simp, fun h => absurd h (by simp)⟩⟩
  · have hlen : (zs.take len).length = len := by
      rw [List.length_take]
      have : len ≤ zs.length := by rw [hz]; split <;> omega
      omega
    refine ⟨zs.take len, some a, cap, by rw [hlen]; exact hcs, by rw [hlen]; exact hl, ?_⟩
    refine ⟨rfl, by rw [hlen]; unfold maxLen at hm; omega, fun _ => ⟨a, rfl, fun j p hj => ?_⟩⟩
    refine ⟨[.int .i64 p], rfl, rfl, fun i u hu => ?_⟩
    have hjl : j < len := by
      have := (List.getElem?_eq_some_iff.mp hj).1
      omega
    cases i with
    | succ i => simp at hu
    | zero =>
      obtain rfl : Value.int .i64 p = u := by simpa using hu
      have hjz : j < zs.length := by
        have : len ≤ zs.length := by rw [hz]; split <;> omega
        omega
      have hp : zs.getD j 0 = p := by
        rw [List.getElem?_take_of_lt hjl] at hj
        rw [List.getD_eq_getElem?_getD, hj]
        rfl
      have := hcell j hjz
      rw [hp] at this
      show w.cell? (a.add (j * 1 + 0)) = _
      rw [Nat.mul_one]
      exact this
set_option maxRecDepth 100000 in
theorem rows2_of {r : Reach} {b0 : Nat} {v : Value} {d : DataW H} {p : List MemPlace} (hv : Value.okWide Try.prog w r b0 27 v) (h : DataW.Trod enc Try.prog w base spare held 27 v d p) :
    ∃ (A : Option Addr) (c : Nat) (l : List (List Int)), v = .slice A l.length c ∧ Kd.C (Kd.slice 2 (Kd.int .i64)) w A l.length l ∧ l.length ≤ c := by
  obtain ⟨a, len, cap, rfl⟩ := okWide_slice Try.underlying27 hv
  obtain ⟨fuel, hf⟩ := h
  rcases open_slice Try.underlying27 hf with ⟨hcs, _⟩ | ⟨ad, len', cap', m, n, D, Pl, hcs, hb, hl, hm, hmm, hx, hi⟩
  · simp [Value.cells] at hcs
    obtain ⟨rfl, rfl, rfl⟩ := hcs
    exact ⟨none, 0, [], rfl, ⟨rfl, by simp, fun h => absurd h (by simp)⟩, Nat.le_refl _⟩
  · simp [Value.cells] at hcs
    obtain ⟨rfl, rfl, rfl⟩ := hcs
    have h1 : Try.prog.cellsOf 49 = 1 := by kernel_rfl
    have hlm : len ≤ m := by rw [hmm]; split <;> omega
    have one : ∀ q, q < len → ∃ (xs : List Int) (cs : List Value), cs.length = 1 ∧ (Kd.slice 2 (Kd.int .i64)).K w xs cs ∧ ∀ i u, cs[i]? = some u → w.cell? (ad.add (q * 1 + i)) = some u := by
      intro q hq
      obtain ⟨cs', hc, ht'⟩ := hi q (by omega)
      rw [h1] at hc
      obtain ⟨_, hcl, hat⟩ := World.cells?_some hc
      obtain ⟨xs, hK⟩ := nums_of ht'
      refine ⟨xs, cs', hcl, hK, fun i u hu => ?_⟩
      have hi1 : i < 1 := by
        have := (List.getElem?_eq_some_iff.mp hu).1
        omega
      rw [← Go.Deep.add_add, hat i hi1, hu]
    refine ⟨some ad, cap, (List.range len).map fun q => if hq : q < len then Classical.choose (one q hq) else [], by simp, ?_, by simpa using hl⟩
    rw [List.length_map, List.length_range]
    refine ⟨by simp, by unfold maxLen at hm; omega, fun _ => ⟨ad, rfl, fun j p hj => ?_⟩⟩
    have hjl : j < len := by
      have := (List.getElem?_eq_some_iff.mp hj).1
      simpa using this
    rw [List.getElem?_map, List.getElem?_range hjl] at hj
    have hp := (Option.some.inj hj).symm
    simp only [hjl, dif_pos] at hp
    subst hp
    obtain ⟨cs, h3, h4, h5⟩ := Classical.choose_spec (one j hjl)
    exact ⟨cs, h3, h4, h5⟩
end
end Go.Proofs.Ytggjdcijplgpdaa.H
