-- Written by this session's program pr.py: the row of the law FnExactValidIron.
import Derived.Test.YtdengckenddcoaaRows
import Derived.Test.YtdengckenddcoaaHead
import Derived.Test.YtdengckenddcoaaS1
import Derived.Test.YtdengckenddcoaaEOpen
import Derived.Test.YtdengckenddcoaaEOpen2
import Derived.Test.YtdengckenddcoaaSayFnExactValidIron
import Derived.Test.YtdengckenddcoaaPureFnExactValidIron
import Derived.WalkKit
import Derived.ProofKit
import Derived.OpenShut
import Derived.ShutString
import Derived.ChangeOld
import Derived.Below
import Derived.SizedLaws
import Derived.Test.YtdengckenddcoaaWords1
import Derived.Test.YtdengckenddcoaaWords2
namespace Go.Proofs.Ytdengckenddcoaa.fnExactValidIron
open Go.ChangeShapes Go.WideShapes Go.ChangeAt Go.RowKit Go.Proofs.YtdengckenddcoaaW.PrintWords Go.Proofs.YtdengckenddcoaaW.PrintLast
open Go.ChangeMaps (open_string shut_string)
set_option linter.unusedVariables false
theorem own : ownKnob Try.prog.godebug = none := by kernel_rfl
theorem laidOut : laidOutB Try.prog = true := by kernel_rfl
set_option maxRecDepth 100000 in
theorem lifted (os : Os) (started : os.Started) (H : Type) (enc : TypeId × Value → H) :
    ReturnsInHanded {} Try.checked os 5 .any (Rows.fnExactValidIronSpec.pre6 enc Try.prog Try.f5 Rows.fnExactValidIronRow.domain false) (Rows.fnExactValidIronSpec.post enc Try.prog Try.f5 false true false false) := by
  refine returnsInHanded_of_change_sized (C := Try.checked) own started (by kernel_rfl) Try.func5
    (ChangeSpec.witness6 (enc := enc) (C := Try.checked) false ⟨#[], #[.agg #[.int .i8 0, .int .i8 0]], []⟩ 8 (by kernel_rfl) (by kernel_rfl) (by kernel_rfl) (by kernel_rfl)) ?_
  intro W base args ds gs before hval0 hW hcnd hsz0 _
  have hsz : (DataW.weightsEach Try.prog (Try.f5.params.toList ++ Rows.fnExactValidIronSpec.plain.varTypes Try.prog) (ds ++ gs)).all (· ≤ reachBytes) = true := hsz0
  have hval : ∀ (j : Nat) t v, Try.f5.params[j]? = some t → args[j]? = some v → Value.okWide Try.prog W .any base t v := hval0
  have hW' := hW
  obtain ⟨p, q, hA0, hV, rfl, hfz, hnd⟩ := hW
  have hA : DataW.TrodAll enc Try.prog W 0 (fun _ => true) true Try.f5.params.toList args.toList ds p := hA0
  rw [Try.params5] at hA hval hsz
  obtain ⟨v0, vs0, d0, ds0, p0, q0, hargs, rfl, rfl, h0, r0⟩ := trodAll_cons hA
  obtain ⟨rfl, rfl, rfl⟩ := trodAll_nil r0
  obtain rfl : args = #[v0] := by cases args; simp_all
  obtain ⟨rfl, rfl⟩ := trodVars_none hV
  have k0 := h0
  have lt0 : ∀ x ∈ p0, x.block < W.heap.size := by obtain ⟨m, hm⟩ := k0; exact DataW.trod_lt m _ _ _ hm
  obtain ⟨cs0, g0, rfl, hz0, hg0⟩ := Open.agg_of (kd := (fun j => ([.i8, .i8] : List IntKind).getD j .i8)) Try.underlying30 (by kernel_rfl) (by kernel_rfl) (by intro j f h; rcases j with _ | _ | j; (first | (obtain rfl := Option.some.inj h; exact Try.underlying28) | (simp at h; subst h; exact Try.underlying28)); (first | (obtain rfl := Option.some.inj h; exact Try.underlying28) | (simp at h; subst h; exact Try.underlying28)); (exact absurd h (by simp))) (hval 0 30 v0 rfl rfl) h0
  obtain rfl : cs0 = #[.int .i8 (g0 0), .int .i8 (g0 1)] := (Open.agg_list (m := 2) hz0 (fun j hj => (hg0 j hj).1)).trans rfl
  have w0_0 : (Lit.int .i8 (g0 0)).wf = true := (hg0 0 (by decide)).2
  have w0_1 : (Lit.int .i8 (g0 1)).wf = true := (hg0 1 (by decide)).2
  clear hA0 hval0 hsz0 hsz
  have h := Pure.FnExactValidIron (g0 0) (g0 1) w0_0 w0_1
  refine (S.laws_FnExactValidIron.calls (g0 0) (g0 1) true W  h).mono fun e W' ⟨he, hd⟩ => ?_
  have bel : Below W.heap.size W W' := hd
  subst he
  exact ⟨_, rfl, _, _, _, [], _, [], hW', trodAll_mk1 (shut_bool Try.underlying4 _), (trodAll_cons_mk (Below.trod laidOut (by kernel_rfl) (of_decide_eq_true (by kernel_rfl)) k0 bel lt0) trodAll_mk0), rfl, bel.frame _, fun h => by cases h⟩
theorem c9 : (Rows.fnExactValidIronRow.inPlace == Try.prog.inPlace 5) = true := by kernel_rfl
theorem c10 : (Rows.fnExactValidIronRow.unfollowed == Try.prog.unfollowed 5) = true := by kernel_rfl
theorem c11 : (Rows.fnExactValidIronRow.recurses == Try.prog.recurses 5) = true := by kernel_rfl
theorem c12 : (Rows.fnExactValidIronRow.named == Try.prog.varsNamed 5) = true := by kernel_rfl
theorem closed : joinedFacts Try.prog 5 Try.f5 Rows.fnExactValidIronSpec Rows.fnExactValidIronRow = true :=
  Head.joined_of (by kernel_rfl) Head.laidOut_ Head.mapsRowed_ (by kernel_rfl) (by kernel_rfl) (by kernel_rfl) Head.stops_ (by kernel_rfl) Head.stopKnobs_ c9 c10 c11 c12 (by kernel_rfl) (by kernel_rfl) (by kernel_rfl) (by kernel_rfl) (by kernel_rfl) (by kernel_rfl) (by kernel_rfl) (by kernel_rfl) (by kernel_rfl) (by kernel_rfl) (by kernel_rfl) Head.stopsHeard_ Head.mayEnter (by rw [Head.liftsFinal]; kernel_rfl) (by rw [Head.make]; kernel_rfl) (by kernel_rfl) (by kernel_rfl) (by kernel_rfl) (by kernel_rfl)
theorem over : Rows.fnExactValidIronRow.holds Try.pinned (OpenSpec.ofChange Rows.fnExactValidIronSpec) :=
  OpenClaim.holds_of_wide 5 Try.f5 rfl rfl rfl rfl rfl rfl rfl ⟨rfl, rfl, rfl, rfl, rfl⟩ rfl rfl rfl rfl rfl (by kernel_rfl) Try.func5 closed
    (of_decide_eq_true (by kernel_rfl)) (by unfold Func.isWrapper; first | (rw [if_pos (by decide +kernel)]; kernel_rfl) | (rw [if_neg (by decide +kernel)]; exact ⟨rfl, rfl⟩))
    (fun os started H enc _ => lifted os started H enc)
theorem proved : Rows.FnExactValidIronSaid := over
#print axioms proved
end Go.Proofs.Ytdengckenddcoaa.fnExactValidIron
namespace Go.Proofs.Ytdengckenddcoaa
/-- The row, under a short name, for the claim. -/
theorem fnExactValidIron_holds : Rows.FnExactValidIronSaid := fnExactValidIron.proved
end Go.Proofs.Ytdengckenddcoaa
