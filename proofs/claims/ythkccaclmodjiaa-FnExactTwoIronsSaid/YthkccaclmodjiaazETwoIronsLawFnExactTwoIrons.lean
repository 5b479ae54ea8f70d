import Derived.Test.YthkccaclmodjiaaRows
import Derived.Test.YthkccaclmodjiaazETwoIronsHead
import Derived.Test.YthkccaclmodjiaazETwoIronsI59
import Derived.Test.YthkccaclmodjiaazETwoIronsETwoLast
import Derived.Test.YthkccaclmodjiaazETwoIronsPureFnExactTwoIrons
import Derived.Test.YthkccaclmodjiaazETwoIronsWords1
import Derived.Test.YthkccaclmodjiaazETwoIronsWords2
import Derived.WalkKit
import Derived.ProofKit
import Derived.OpenShut
import Derived.ShutString
import Derived.ChangeOld
import Derived.Below
import Derived.SizedLaws
namespace Go.Proofs.Ythkccaclmodjiaa.fnExactTwoIrons
open Go.ChangeShapes Go.WideShapes Go.ChangeAt Go.RowKit Go.Proofs.YthkccaclmodjiaaW.PrintWords Go.Proofs.YthkccaclmodjiaaW.PrintLast
open Go.ChangeMaps (open_string shut_string)
set_option linter.unusedVariables false
theorem own : ownKnob Try.prog.godebug = none := by kernel_rfl
theorem laidOut : laidOutB Try.prog = true := by kernel_rfl
set_option maxRecDepth 100000 in
theorem lifted (os : Os) (started : os.Started) (H : Type) (enc : TypeId × Value → H) :
    ReturnsInHanded {} Try.checked os 10 .any (Rows.fnExactTwoIronsSpec.pre6 enc Try.prog Try.f10 Rows.fnExactTwoIronsRow.domain false) (Rows.fnExactTwoIronsSpec.post enc Try.prog Try.f10 false true false false) := by
  refine returnsInHanded_of_change_sized (C := Try.checked) own started (by kernel_rfl) Try.func10
    (ChangeSpec.witness6 (enc := enc) (C := Try.checked) false ⟨#[], #[.agg #[.int .i8 0, .int .i8 0], .slice none 0 0], []⟩ 8 (by kernel_rfl) (by kernel_rfl) (by kernel_rfl) (by kernel_rfl)) ?_
  intro W base args ds gs before hval0 hW hcnd hsz0 _
  have hsz : (DataW.weightsEach Try.prog (Try.f10.params.toList ++ Rows.fnExactTwoIronsSpec.plain.varTypes Try.prog) (ds ++ gs)).all (· ≤ reachBytes) = true := hsz0
  have hval : ∀ (j : Nat) t v, Try.f10.params[j]? = some t → args[j]? = some v → Value.okWide Try.prog W .any base t v := hval0
  have hW' := hW
  obtain ⟨p, q, hA0, hV, rfl, hfz, hnd⟩ := hW
  have hA : DataW.TrodAll enc Try.prog W 0 (fun _ => true) true Try.f10.params.toList args.toList ds p := hA0
  rw [Try.params10] at hA hval hsz
  obtain ⟨v0, vs0, d0, ds0, p0, q0, hargs, rfl, rfl, h0, r0⟩ := trodAll_cons hA
  obtain ⟨v1, vs1, d1, ds1, p1, q1, rfl, rfl, rfl, h1, r1⟩ := trodAll_cons r0
  obtain ⟨rfl, rfl, rfl⟩ := trodAll_nil r1
  obtain rfl : args = #[v0, v1] := by cases args; simp_all
  obtain ⟨rfl, rfl⟩ := trodVars_none hV
  have k0 := h0
  have lt0 : ∀ x ∈ p0, x.block < W.heap.size := by obtain ⟨m, hm⟩ := k0; exact DataW.trod_lt m _ _ _ hm
  obtain ⟨cs0, g0, rfl, hz0, hg0⟩ := Open.agg_of (kd := (fun j => ([.i8, .i8] : List IntKind).getD j .i8)) Try.underlying24 (by kernel_rfl) (by kernel_rfl) (by intro j f h; rcases j with _ | _ | j; (first | (obtain rfl := Option.some.inj h; exact Try.underlying22) | (simp at h; subst h; exact Try.underlying22)); (first | (obtain rfl := Option.some.inj h; exact Try.underlying22) | (simp at h; subst h; exact Try.underlying22)); (exact absurd h (by simp))) (hval 0 24 v0 rfl rfl) h0
  obtain rfl : cs0 = #[.int .i8 (g0 0), .int .i8 (g0 1)] := (Open.agg_list (m := 2) hz0 (fun j hj => (hg0 j hj).1)).trans rfl
  have w0_0 : (Lit.int .i8 (g0 0)).wf = true := (hg0 0 (by decide)).2
  have w0_1 : (Lit.int .i8 (g0 1)).wf = true := (hg0 1 (by decide)).2
  obtain ⟨a1, len1, cap1, rfl⟩ := okWide_slice Try.underlying30 (hval 1 30 v1 rfl rfl)
  have k1 := h1
  have lt1 : ∀ x ∈ p1, x.block < W.heap.size := by obtain ⟨m, hm⟩ := k1; exact DataW.trod_lt m _ _ _ hm
  obtain ⟨hc1, hm1, y1, ho1⟩ := Open.rows_of (kd := (fun j => ([.i8, .i8, .i16] : List IntKind).getD j .i8)) (B := 4) Try.underlying30 Try.underlying69 (by kernel_rfl) (by kernel_rfl) (by intro j f h; rcases j with _ | _ | _ | j; (first | (obtain rfl := Option.some.inj h; exact Try.underlying22) | (simp at h; subst h; exact Try.underlying22)); (first | (obtain rfl := Option.some.inj h; exact Try.underlying22) | (simp at h; subst h; exact Try.underlying22)); (first | (obtain rfl := Option.some.inj h; exact Try.underlying55) | (simp at h; subst h; exact Try.underlying55)); (exact absurd h (by simp))) hsz (i := 1) rfl rfl (by kernel_rfl) h1
  obtain ⟨l1, rfl, hr1, hw1⟩ := I.row_C I.k69 3 (fun g => (⟨g 0, g 1, g 2⟩ : I.S69)) (fun j => ([.i8, .i8, .i16] : List IntKind).getD j .i8) (fun g => I.k69_mk W _) rfl hm1 ho1
  have w1 : ∀ x ∈ l1, (Lit.int .i8 x.f0).wf = true ∧ (Lit.int .i8 x.f1).wf = true ∧ (Lit.int .i16 x.f2).wf = true := by
    intro x hx
    obtain ⟨g, rfl, hg⟩ := hw1 x hx
    exact ⟨hg 0 (by decide), hg 1 (by decide), hg 2 (by decide)⟩
  clear hA0 hval0 hsz0 hsz
  obtain ⟨k, h⟩ := Pure.FnExactTwoIrons (g0 0) (g0 1) l1 w0_0 w0_1 y1 w1
  refine (I.laws_FnExactTwoIrons.calls k (g0 0) (g0 1) _ _ l1 true W hr1 hc1 h).mono fun e W' ⟨he, hd⟩ => ?_
  have bel : Below W.heap.size W W' := hd
  subst he
  exact ⟨_, rfl, _, _, _, [], _, [], hW', trodAll_mk1 (shut_bool Try.underlying4 _), (trodAll_cons_mk (Below.trod laidOut (by kernel_rfl) (of_decide_eq_true (by kernel_rfl)) k0 bel lt0) (trodAll_cons_mk (Below.trod laidOut (by kernel_rfl) (of_decide_eq_true (by kernel_rfl)) k1 bel lt1) trodAll_mk0)), rfl, bel.frame _, fun h => by cases h⟩
theorem c9 : (Rows.fnExactTwoIronsRow.inPlace == Try.prog.inPlace 10) = true := by kernel_rfl
theorem c10 : (Rows.fnExactTwoIronsRow.unfollowed == Try.prog.unfollowed 10) = true := by kernel_rfl
theorem c11 : (Rows.fnExactTwoIronsRow.recurses == Try.prog.recurses 10) = true := by kernel_rfl
theorem c12 : (Rows.fnExactTwoIronsRow.named == Try.prog.varsNamed 10) = true := by kernel_rfl
theorem closed : joinedFacts Try.prog 10 Try.f10 Rows.fnExactTwoIronsSpec Rows.fnExactTwoIronsRow = true :=
  Head.joined_of (by kernel_rfl) Head.laidOut_ Head.mapsRowed_ (by kernel_rfl) (by kernel_rfl) (by kernel_rfl) Head.stops_ (by kernel_rfl) Head.stopKnobs_ c9 c10 c11 c12 (by kernel_rfl) (by kernel_rfl) (by kernel_rfl) (by kernel_rfl) (by kernel_rfl) (by kernel_rfl) (by kernel_rfl) (by kernel_rfl) (by kernel_rfl) (by kernel_rfl) (by kernel_rfl) Head.stopsHeard_ Head.mayEnter (by rw [Head.liftsFinal]; kernel_rfl) (by rw [Head.make]; kernel_rfl) (by kernel_rfl) (by kernel_rfl) (by kernel_rfl) (by kernel_rfl)
theorem over : Rows.fnExactTwoIronsRow.holds Try.pinned (OpenSpec.ofChange Rows.fnExactTwoIronsSpec) :=
  OpenClaim.holds_of_wide 10 Try.f10 rfl rfl rfl rfl rfl rfl rfl ⟨rfl, rfl, rfl, rfl, rfl⟩ rfl rfl rfl rfl rfl (by kernel_rfl) Try.func10 closed
    (of_decide_eq_true (by kernel_rfl)) (by unfold Func.isWrapper; first | (rw [if_pos (by decide +kernel)]; kernel_rfl) | (rw [if_neg (by decide +kernel)]; exact ⟨rfl, rfl⟩))
    (fun os started H enc _ => lifted os started H enc)
theorem proved : Rows.FnExactTwoIronsSaid := over
end Go.Proofs.Ythkccaclmodjiaa.fnExactTwoIrons
namespace Go.Proofs.Ythkccaclmodjiaa
theorem fnExactTwoIrons_holds : Rows.FnExactTwoIronsSaid := fnExactTwoIrons.proved
end Go.Proofs.Ythkccaclmodjiaa
