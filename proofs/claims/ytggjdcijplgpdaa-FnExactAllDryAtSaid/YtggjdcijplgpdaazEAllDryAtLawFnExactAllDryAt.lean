import Derived.Test.YtggjdcijplgpdaaRows
import Derived.Test.YtggjdcijplgpdaazEAllDryAtHead
import Derived.Test.YtggjdcijplgpdaazEAllDryAtELaw5
import Derived.Test.YtggjdcijplgpdaazEAllDryAtEOpen
import Derived.Test.YtggjdcijplgpdaazEAllDryAtEOpen2
import Derived.Test.YtggjdcijplgpdaazEAllDryAtSayFnExactAllDryAt
import Derived.Test.YtggjdcijplgpdaazEAllDryAtPureFnExactAllDryAt
import Derived.Test.YtggjdcijplgpdaazEAllDryAtEOpenDay
import Derived.Test.YtggjdcijplgpdaazEAllDryAtWords1
import Derived.Test.YtggjdcijplgpdaazEAllDryAtWords2
import Derived.WalkKit
import Derived.ProofKit
import Derived.OpenShut
import Derived.ShutString
import Derived.ChangeOld
import Derived.Below
import Derived.SizedLaws
namespace Go.Proofs.Ytggjdcijplgpdaa.fnExactAllDryAt
open Go.ChangeShapes Go.WideShapes Go.ChangeAt Go.RowKit Go.Proofs.YtggjdcijplgpdaaW.PrintWords Go.Proofs.YtggjdcijplgpdaaW.PrintLast
open Go.ChangeMaps (open_string shut_string)
set_option linter.unusedVariables false
theorem own : ownKnob Try.prog.godebug = none := by kernel_rfl
theorem laidOut : laidOutB Try.prog = true := by kernel_rfl
def IsRow (k : IntKind) (w : World) (a : Option Addr) (len cap : Nat) (zs : List Int) : Prop :=
  (a = none ∧ len = 0 ∧ cap = 0 ∧ zs = []) ∨
  ∃ x, a = some x ∧ len ≤ cap ∧ cap ≤ maxLen ∧ zs.length = cap ∧ (∀ i, i < zs.length → w.cell? (x.add i) = some (.int k (zs.getD i 0))) ∧ ∀ n ∈ zs, (Lit.int k n).wf = true
set_option maxRecDepth 100000 in
theorem lifted (os : Os) (started : os.Started) (H : Type) (enc : TypeId × Value → H) :
    ReturnsInHanded {} Try.checked os 5 .any (Rows.fnExactAllDryAtSpec.pre6 enc Try.prog Try.f5 Rows.fnExactAllDryAtRow.domain false) (Rows.fnExactAllDryAtSpec.post enc Try.prog Try.f5 false true false false) := by
  refine returnsInHanded_of_change_sized (C := Try.checked) own started (by kernel_rfl) Try.func5
    (ChangeSpec.witness6 (enc := enc) (C := Try.checked) false ⟨#[], #[.agg #[.int .i8 0, .int .i8 0, .int .i8 0, .int .i8 0, .int .i8 0, .int .i8 0, .int .i8 0, .int .i8 0, .int .i8 0, .int .i8 0, .int .i8 0, .int .i8 0, .int .i8 0, .int .i8 0, .int .i8 0, .int .i8 0, .int .i8 0, .int .i8 0, .int .i8 0, .int .i8 0, .int .i8 0, .int .i8 0, .int .i8 0, .int .i8 0, .int .i8 0, .int .i8 0, .int .i8 0, .int .i8 0, .int .i8 0, .int .i8 0, .int .i8 0, .int .i8 0, .int .i8 0, .int .i8 0, .int .i8 0, .int .i8 0, .int .i8 0, .int .i8 0, .int .i8 0, .int .i8 0, .int .i8 0, .int .i8 0, .int .i8 0, .int .i8 0, .int .i8 0, .int .i8 0, .int .i8 0, .int .i8 0, .int .i8 0, .int .i8 0, .int .i8 0, .int .i8 0, .int .i8 0, .int .i8 0, .int .i8 0, .int .i8 0, .int .i8 0, .int .i8 0, .int .i8 0, .int .i8 0, .int .i8 0, .int .i8 0, .int .i8 0, .int .i8 0, .int .i8 0, .int .i8 0, .int .i8 0, .int .i8 0, .int .i8 0, .int .i8 0, .int .i8 0, .int .i8 0], .slice none 0 0, .int .i64 0, .slice none 0 0], []⟩ 8 (by kernel_rfl) (by kernel_rfl) (by kernel_rfl) (by kernel_rfl)) ?_
  intro W base args ds gs before hval0 hW hcnd hsz0 _
  have hsz : (DataW.weightsEach Try.prog (Try.f5.params.toList ++ Rows.fnExactAllDryAtSpec.plain.varTypes Try.prog) (ds ++ gs)).all (· ≤ reachBytes) = true := hsz0
  have hval : ∀ (j : Nat) t v, Try.f5.params[j]? = some t → args[j]? = some v → Value.okWide Try.prog W .any base t v := hval0
  have hW' := hW
  obtain ⟨p, q, hA0, hV, rfl, hfz, hnd⟩ := hW
  have hA : DataW.TrodAll enc Try.prog W 0 (fun _ => true) true Try.f5.params.toList args.toList ds p := hA0
  rw [Try.params5] at hA hval hsz
  obtain ⟨v0, vs0, d0, ds0, p0, q0, hargs, rfl, rfl, h0, r0⟩ := trodAll_cons hA
  obtain ⟨v1, vs1, d1, ds1, p1, q1, rfl, rfl, rfl, h1, r1⟩ := trodAll_cons r0
  obtain ⟨v2, vs2, d2, ds2, p2, q2, rfl, rfl, rfl, h2, r2⟩ := trodAll_cons r1
  obtain ⟨v3, vs3, d3, ds3, p3, q3, rfl, rfl, rfl, h3, r3⟩ := trodAll_cons r2
  obtain ⟨rfl, rfl, rfl⟩ := trodAll_nil r3
  obtain rfl : args = #[v0, v1, v2, v3] := by cases args; simp_all
  obtain ⟨rfl, rfl⟩ := trodVars_none hV
  have k0 := h0
  have lt0 : ∀ x ∈ p0, x.block < W.heap.size := by obtain ⟨m, hm⟩ := k0; exact DataW.trod_lt m _ _ _ hm
  obtain ⟨cs0, G0, rfl, hz0, hg0⟩ := D.arr_of (kd := (fun j => ([.i8, .i8, .i8] : List IntKind).getD j .i8)) Try.underlying70 Try.underlying69 (by kernel_rfl) (by kernel_rfl) (by kernel_rfl) (by intro j f h; rcases j with _ | _ | _ | j; (first | (obtain rfl := Option.some.inj h; exact Try.underlying24) | (simp at h; subst h; exact Try.underlying24)); (first | (obtain rfl := Option.some.inj h; exact Try.underlying24) | (simp at h; subst h; exact Try.underlying24)); (first | (obtain rfl := Option.some.inj h; exact Try.underlying24) | (simp at h; subst h; exact Try.underlying24)); (exact absurd h (by simp))) (hval 0 70 v0 rfl rfl) h0
  obtain rfl := D.day_list (cs := cs0) (G := G0) hz0 (fun q hq j hj => by rcases (show j = 0 ∨ j = 1 ∨ j = 2 by omega) with rfl | rfl | rfl <;> exact (hg0 q hq _ (by decide)).1)
  have hc0 : ((List.range 24).map fun q => (⟨G0 q 0, G0 q 1, G0 q 2⟩ : D.S74)).length = 24 := by rw [List.length_map, List.length_range]
  have w0 : ∀ x ∈ ((List.range 24).map fun q => (⟨G0 q 0, G0 q 1, G0 q 2⟩ : D.S74)), (Lit.int .i8 x.f0).wf = true ∧ (Lit.int .i8 x.f1).wf = true ∧ (Lit.int .i8 x.f2).wf = true := by
    intro x hx
    obtain ⟨q, hq, rfl⟩ := List.mem_map.mp hx
    have hq := List.mem_range.mp hq
    exact ⟨(hg0 q hq 0 (by decide)).2, (hg0 q hq 1 (by decide)).2, (hg0 q hq 2 (by decide)).2⟩
  clear hz0 hg0
  generalize ((List.range 24).map fun q => (⟨G0 q 0, G0 q 1, G0 q 2⟩ : D.S74)) = l0 at hc0 w0 k0 hW' ⊢
  obtain ⟨a1, len1, cap1, rfl⟩ := okWide_slice Try.underlying71 (hval 1 71 v1 rfl rfl)
  have k1 := h1
  have lt1 : ∀ x ∈ p1, x.block < W.heap.size := by obtain ⟨m, hm⟩ := k1; exact DataW.trod_lt m _ _ _ hm
  obtain ⟨hc1, hm1, y1, ho1⟩ := Open.rows_of (kd := (fun j => ([.i16, .i8] : List IntKind).getD j .i8)) (B := 4) Try.underlying71 Try.underlying131 (by kernel_rfl) (by kernel_rfl) (by intro j f h; rcases j with _ | _ | j; (first | (obtain rfl := Option.some.inj h; exact Try.underlying23) | (simp at h; subst h; exact Try.underlying23)); (first | (obtain rfl := Option.some.inj h; exact Try.underlying24) | (simp at h; subst h; exact Try.underlying24)); (exact absurd h (by simp))) hsz (i := 1) rfl rfl (by kernel_rfl) h1
  obtain ⟨l1, rfl, hr1, hw1⟩ := D.row_C D.k131 2 (fun g => (⟨g 0, g 1⟩ : D.S131)) (fun j => ([.i16, .i8] : List IntKind).getD j .i8) (fun g => D.k131_mk W _) rfl hm1 ho1
  have w1 : ∀ x ∈ l1, (Lit.int .i16 x.f0).wf = true ∧ (Lit.int .i8 x.f1).wf = true := by
    intro x hx
    obtain ⟨g, rfl, hg⟩ := hw1 x hx
    exact ⟨hg 0 (by decide), hg 1 (by decide)⟩
  obtain ⟨a2, rfl, rfl, rfl, w2⟩ := open_int Try.underlying2 (hval 2 2 v2 rfl rfl) h2
  obtain ⟨a3, len3, cap3, rfl⟩ := okWide_slice Try.underlying49 (hval 3 49 v3 rfl rfl)
  have k3 := h3
  have lt3 : ∀ x ∈ p3, x.block < W.heap.size := by obtain ⟨m, hm⟩ := k3; exact DataW.trod_lt m _ _ _ hm
  obtain ⟨z3, w3⟩ : ∃ zs, IsRow .i64 W a3 len3 cap3 zs := by
    obtain ⟨fuel, hf⟩ := h3
    rcases open_ints Try.underlying49 Try.underlying2 (by kernel_rfl) hf with ⟨hcs, _⟩ | ⟨x, l, c, zs, hcs, _, hl, hm, hz, _, hcell, hwz⟩
    · simp [Value.cells] at hcs
      obtain ⟨rfl, rfl, rfl⟩ := hcs
      exact ⟨[], .inl ⟨rfl, rfl, rfl, rfl⟩⟩
    · simp [Value.cells] at hcs
      obtain ⟨rfl, rfl, rfl⟩ := hcs
      exact ⟨zs, .inr ⟨_, rfl, hl, hm, by simpa using hz, hcell, hwz⟩⟩
  have y3 : len3 * 8 ≤ 140737488351232 := Go.Proofs.YtggjdcijplgpdaaW.PrintWords.sized_ints hsz (j := 3) (t := 49) rfl rfl Try.underlying49 Try.underlying2 (by kernel_rfl) (by kernel_rfl) h3
  obtain ⟨l3, rfl, hr3, hm3, hw3, hc3⟩ := ReadsInt.ofRowC w3
  clear hA0 hval0 hsz0 hsz
  obtain ⟨k, h⟩ := Pure.FnExactAllDryAt l0 l1 a2 l3 hc0 w0 y1 w1 w2 hm3 y3 hw3
  refine (D.laws_FnExactAllDryAt.calls k l0 _ _ l1 a2 _ _ l3 true W hc0 hr1 hc1 (Kd.C_of_reads (d := (0 : Int)) (h1 := fun _ => rfl) hr3) hc3 h).mono fun e W' ⟨he, hd⟩ => ?_
  have bel : Below W.heap.size W W' := hd
  subst he
  exact ⟨_, rfl, _, _, _, [], _, [], hW', trodAll_mk1 (shut_bool Try.underlying4 _), (trodAll_cons_mk (Below.trod laidOut (by kernel_rfl) (of_decide_eq_true (by kernel_rfl)) k0 bel lt0) (trodAll_cons_mk (Below.trod laidOut (by kernel_rfl) (of_decide_eq_true (by kernel_rfl)) k1 bel lt1) (trodAll_cons_mk (shut_int Try.underlying2 w2) (trodAll_cons_mk (Below.trod laidOut (by kernel_rfl) (of_decide_eq_true (by kernel_rfl)) k3 bel lt3) trodAll_mk0)))), rfl, bel.frame _, fun h => by cases h⟩
theorem c9 : (Rows.fnExactAllDryAtRow.inPlace == Try.prog.inPlace 5) = true := by kernel_rfl
theorem c10 : (Rows.fnExactAllDryAtRow.unfollowed == Try.prog.unfollowed 5) = true := by kernel_rfl
theorem c11 : (Rows.fnExactAllDryAtRow.recurses == Try.prog.recurses 5) = true := by kernel_rfl
theorem c12 : (Rows.fnExactAllDryAtRow.named == Try.prog.varsNamed 5) = true := by kernel_rfl
theorem closed : joinedFacts Try.prog 5 Try.f5 Rows.fnExactAllDryAtSpec Rows.fnExactAllDryAtRow = true :=
  Head.joined_of (by kernel_rfl) Head.laidOut_ Head.mapsRowed_ (by kernel_rfl) (by kernel_rfl) (by kernel_rfl) Head.stops_ (by kernel_rfl) Head.stopKnobs_ c9 c10 c11 c12 (by kernel_rfl) (by kernel_rfl) (by kernel_rfl) (by kernel_rfl) (by kernel_rfl) (by kernel_rfl) (by kernel_rfl) (by kernel_rfl) (by kernel_rfl) (by kernel_rfl) (by kernel_rfl) Head.stopsHeard_ Head.mayEnter (by rw [Head.liftsFinal]; kernel_rfl) (by rw [Head.make]; kernel_rfl) (by kernel_rfl) (by kernel_rfl) (by kernel_rfl) (by kernel_rfl)
theorem over : Rows.fnExactAllDryAtRow.holds Try.pinned (OpenSpec.ofChange Rows.fnExactAllDryAtSpec) :=
  OpenClaim.holds_of_wide 5 Try.f5 rfl rfl rfl rfl rfl rfl rfl ⟨rfl, rfl, rfl, rfl, rfl⟩ rfl rfl rfl rfl rfl (by kernel_rfl) Try.func5 closed
    (of_decide_eq_true (by kernel_rfl)) (by unfold Func.isWrapper; first | (rw [if_pos (by decide +kernel)]; kernel_rfl) | (rw [if_neg (by decide +kernel)]; exact ⟨rfl, rfl⟩))
    (fun os started H enc _ => lifted os started H enc)
theorem proved : Rows.FnExactAllDryAtSaid := over
end Go.Proofs.Ytggjdcijplgpdaa.fnExactAllDryAt
namespace Go.Proofs.Ytggjdcijplgpdaa
theorem fnExactAllDryAt_holds : Rows.FnExactAllDryAtSaid := fnExactAllDryAt.proved
end Go.Proofs.Ytggjdcijplgpdaa
