-- Written by this session's program pr.py: the row of the law FnExactChangeTime.
import Derived.Test.YthkccaclmodjiaaRows
import Derived.Test.YthkccaclmodjiaaHead
import Derived.Test.YthkccaclmodjiaaI3
import Derived.Test.YthkccaclmodjiaaEOpen
import Derived.Test.YthkccaclmodjiaaEOpen2
import Derived.Test.YthkccaclmodjiaaSayFnExactChangeTime
import Derived.Test.YthkccaclmodjiaaPureFnExactChangeTime
import Derived.WalkKit
import Derived.ProofKit
import Derived.OpenShut
import Derived.ShutString
import Derived.ChangeOld
import Derived.Below
import Derived.SizedLaws
import Derived.Test.YthkccaclmodjiaaWords1
import Derived.Test.YthkccaclmodjiaaWords2
namespace Go.Proofs.Ythkccaclmodjiaa.fnExactChangeTime
open Go.ChangeShapes Go.WideShapes Go.ChangeAt Go.RowKit Go.Proofs.YthkccaclmodjiaaW.PrintWords Go.Proofs.YthkccaclmodjiaaW.PrintLast
open Go.ChangeMaps (open_string shut_string)
set_option linter.unusedVariables false
theorem own : ownKnob Try.prog.godebug = none := by kernel_rfl
theorem laidOut : laidOutB Try.prog = true := by kernel_rfl
set_option maxRecDepth 100000 in
theorem lifted (os : Os) (started : os.Started) (H : Type) (enc : TypeId × Value → H) :
    ReturnsInHanded {} Try.checked os 3 .any (Rows.fnExactChangeTimeSpec.pre6 enc Try.prog Try.f3 Rows.fnExactChangeTimeRow.domain false) (Rows.fnExactChangeTimeSpec.post enc Try.prog Try.f3 false true false false) := by
  refine returnsInHanded_of_change_sized (C := Try.checked) own started (by kernel_rfl) Try.func3
    (ChangeSpec.witness6 (enc := enc) (C := Try.checked) false ⟨#[], #[.agg #[.int .i8 0, .int .i8 0], .int .i64 0, .int .i64 0], []⟩ 8 (by kernel_rfl) (by kernel_rfl) (by kernel_rfl) (by kernel_rfl)) ?_
  intro W base args ds gs before hval0 hW hcnd hsz0 _
  have hsz : (DataW.weightsEach Try.prog (Try.f3.params.toList ++ Rows.fnExactChangeTimeSpec.plain.varTypes Try.prog) (ds ++ gs)).all (· ≤ reachBytes) = true := hsz0
  have hval : ∀ (j : Nat) t v, Try.f3.params[j]? = some t → args[j]? = some v → Value.okWide Try.prog W .any base t v := hval0
  have hW' := hW
  obtain ⟨p, q, hA0, hV, rfl, hfz, hnd⟩ := hW
  have hA : DataW.TrodAll enc Try.prog W 0 (fun _ => true) true Try.f3.params.toList args.toList ds p := hA0
  rw [Try.params3] at hA hval hsz
  obtain ⟨v0, vs0, d0, ds0, p0, q0, hargs, rfl, rfl, h0, r0⟩ := trodAll_cons hA
  obtain ⟨v1, vs1, d1, ds1, p1, q1, rfl, rfl, rfl, h1, r1⟩ := trodAll_cons r0
  obtain ⟨v2, vs2, d2, ds2, p2, q2, rfl, rfl, rfl, h2, r2⟩ := trodAll_cons r1
  obtain ⟨rfl, rfl, rfl⟩ := trodAll_nil r2
  obtain rfl : args = #[v0, v1, v2] := by cases args; simp_all
  obtain ⟨rfl, rfl⟩ := trodVars_none hV
  have k0 := h0
  have lt0 : ∀ x ∈ p0, x.block < W.heap.size := by obtain ⟨m, hm⟩ := k0; exact DataW.trod_lt m _ _ _ hm
  obtain ⟨cs0, g0, rfl, hz0, hg0⟩ := Open.agg_of (kd := (fun j => ([.i8, .i8] : List IntKind).getD j .i8)) Try.underlying24 (by kernel_rfl) (by kernel_rfl) (by intro j f h; rcases j with _ | _ | j; (first | (obtain rfl := Option.some.inj h; exact Try.underlying22) | (simp at h; subst h; exact Try.underlying22)); (first | (obtain rfl := Option.some.inj h; exact Try.underlying22) | (simp at h; subst h; exact Try.underlying22)); (exact absurd h (by simp))) (hval 0 24 v0 rfl rfl) h0
  obtain rfl : cs0 = #[.int .i8 (g0 0), .int .i8 (g0 1)] := (Open.agg_list (m := 2) hz0 (fun j hj => (hg0 j hj).1)).trans rfl
  have w0_0 : (Lit.int .i8 (g0 0)).wf = true := (hg0 0 (by decide)).2
  have w0_1 : (Lit.int .i8 (g0 1)).wf = true := (hg0 1 (by decide)).2
  obtain ⟨a1, rfl, rfl, rfl, w1⟩ := open_int Try.underlying2 (hval 1 2 v1 rfl rfl) h1
  obtain ⟨a2, rfl, rfl, rfl, w2⟩ := open_int Try.underlying2 (hval 2 2 v2 rfl rfl) h2
  clear hA0 hval0 hsz0 hsz
  have h := Pure.FnExactChangeTime (g0 0) (g0 1) a1 a2 w0_0 w0_1 w1 w2
  refine (I.laws_FnExactChangeTime.calls (g0 0) (g0 1) a1 a2 true W  h).mono fun e W' ⟨he, hd⟩ => ?_
  have bel : Below W.heap.size W W' := hd
  subst he
  exact ⟨_, rfl, _, _, _, [], _, [], hW', trodAll_mk1 (shut_bool Try.underlying4 _), (trodAll_cons_mk (Below.trod laidOut (by kernel_rfl) (of_decide_eq_true (by kernel_rfl)) k0 bel lt0) (trodAll_cons_mk (shut_int Try.underlying2 w1) (trodAll_cons_mk (shut_int Try.underlying2 w2) trodAll_mk0))), rfl, bel.frame _, fun h => by cases h⟩
theorem c9 : (Rows.fnExactChangeTimeRow.inPlace == Try.prog.inPlace 3) = true := by kernel_rfl
theorem c10 : (Rows.fnExactChangeTimeRow.unfollowed == Try.prog.unfollowed 3) = true := by kernel_rfl
theorem c11 : (Rows.fnExactChangeTimeRow.recurses == Try.prog.recurses 3) = true := by kernel_rfl
theorem c12 : (Rows.fnExactChangeTimeRow.named == Try.prog.varsNamed 3) = true := by kernel_rfl
theorem closed : joinedFacts Try.prog 3 Try.f3 Rows.fnExactChangeTimeSpec Rows.fnExactChangeTimeRow = true :=
  Head.joined_of (by kernel_rfl) Head.laidOut_ Head.mapsRowed_ (by kernel_rfl) (by kernel_rfl) (by kernel_rfl) Head.stops_ (by kernel_rfl) Head.stopKnobs_ c9 c10 c11 c12 (by kernel_rfl) (by kernel_rfl) (by kernel_rfl) (by kernel_rfl) (by kernel_rfl) (by kernel_rfl) (by kernel_rfl) (by kernel_rfl) (by kernel_rfl) (by kernel_rfl) (by kernel_rfl) Head.stopsHeard_ Head.mayEnter (by rw [Head.liftsFinal]; kernel_rfl) (by rw [Head.make]; kernel_rfl) (by kernel_rfl) (by kernel_rfl) (by kernel_rfl) (by kernel_rfl)
theorem over : Rows.fnExactChangeTimeRow.holds Try.pinned (OpenSpec.ofChange Rows.fnExactChangeTimeSpec) :=
  OpenClaim.holds_of_wide 3 Try.f3 rfl rfl rfl rfl rfl rfl rfl ⟨rfl, rfl, rfl, rfl, rfl⟩ rfl rfl rfl rfl rfl (by kernel_rfl) Try.func3 closed
    (of_decide_eq_true (by kernel_rfl)) (by unfold Func.isWrapper; first | (rw [if_pos (by decide +kernel)]; kernel_rfl) | (rw [if_neg (by decide +kernel)]; exact ⟨rfl, rfl⟩))
    (fun os started H enc _ => lifted os started H enc)
theorem proved : Rows.FnExactChangeTimeSaid := over
#print axioms proved
end Go.Proofs.Ythkccaclmodjiaa.fnExactChangeTime
namespace Go.Proofs.Ythkccaclmodjiaa
/-- The row, under a short name, for the claim. -/
theorem fnExactChangeTime_holds : Rows.FnExactChangeTimeSaid := fnExactChangeTime.proved
end Go.Proofs.Ythkccaclmodjiaa
