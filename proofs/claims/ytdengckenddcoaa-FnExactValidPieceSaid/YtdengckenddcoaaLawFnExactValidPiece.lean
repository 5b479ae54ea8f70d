-- Written by this session's program pr.py: the row of the law FnExactValidPiece.
import Derived.Test.YtdengckenddcoaaRows
import Derived.Test.YtdengckenddcoaaHead
import Derived.Test.YtdengckenddcoaaS3
import Derived.Test.YtdengckenddcoaaEOpen
import Derived.Test.YtdengckenddcoaaEOpen2
import Derived.Test.YtdengckenddcoaaSayFnExactValidPiece
import Derived.Test.YtdengckenddcoaaPureFnExactValidPiece
import Derived.WalkKit
import Derived.ProofKit
import Derived.OpenShut
import Derived.ShutString
import Derived.ChangeOld
import Derived.Below
import Derived.SizedLaws
import Derived.Test.YtdengckenddcoaaWords1
import Derived.Test.YtdengckenddcoaaWords2
namespace Go.Proofs.Ytdengckenddcoaa.fnExactValidPiece
open Go.ChangeShapes Go.WideShapes Go.ChangeAt Go.RowKit Go.Proofs.YtdengckenddcoaaW.PrintWords Go.Proofs.YtdengckenddcoaaW.PrintLast
open Go.ChangeMaps (open_string shut_string)
set_option linter.unusedVariables false
theorem own : ownKnob Try.prog.godebug = none := by kernel_rfl
theorem laidOut : laidOutB Try.prog = true := by kernel_rfl
set_option maxRecDepth 100000 in
theorem lifted (os : Os) (started : os.Started) (H : Type) (enc : TypeId × Value → H) :
    ReturnsInHanded {} Try.checked os 6 .any (Rows.fnExactValidPieceSpec.pre6 enc Try.prog Try.f6 Rows.fnExactValidPieceRow.domain false) (Rows.fnExactValidPieceSpec.post enc Try.prog Try.f6 false true false false) := by
  refine returnsInHanded_of_change_sized (C := Try.checked) own started (by kernel_rfl) Try.func6
    (ChangeSpec.witness6 (enc := enc) (C := Try.checked) false ⟨#[], #[.agg #[.int .i8 0, .int .i8 0, .int .i16 0]], []⟩ 8 (by kernel_rfl) (by kernel_rfl) (by kernel_rfl) (by kernel_rfl)) ?_
  intro W base args ds gs before hval0 hW hcnd hsz0 _
  have hsz : (DataW.weightsEach Try.prog (Try.f6.params.toList ++ Rows.fnExactValidPieceSpec.plain.varTypes Try.prog) (ds ++ gs)).all (· ≤ reachBytes) = true := hsz0
  have hval : ∀ (j : Nat) t v, Try.f6.params[j]? = some t → args[j]? = some v → Value.okWide Try.prog W .any base t v := hval0
  have hW' := hW
  obtain ⟨p, q, hA0, hV, rfl, hfz, hnd⟩ := hW
  have hA : DataW.TrodAll enc Try.prog W 0 (fun _ => true) true Try.f6.params.toList args.toList ds p := hA0
  rw [Try.params6] at hA hval hsz
  obtain ⟨v0, vs0, d0, ds0, p0, q0, hargs, rfl, rfl, h0, r0⟩ := trodAll_cons hA
  obtain ⟨rfl, rfl, rfl⟩ := trodAll_nil r0
  obtain rfl : args = #[v0] := by cases args; simp_all
  obtain ⟨rfl, rfl⟩ := trodVars_none hV
  have k0 := h0
  have lt0 : ∀ x ∈ p0, x.block < W.heap.size := by obtain ⟨m, hm⟩ := k0; exact DataW.trod_lt m _ _ _ hm
  obtain ⟨cs0, g0, rfl, hz0, hg0⟩ := Open.agg_of (kd := (fun j => ([.i8, .i8, .i16] : List IntKind).getD j .i8)) Try.underlying37 (by kernel_rfl) (by kernel_rfl) (by intro j f h; rcases j with _ | _ | _ | j; (first | (obtain rfl := Option.some.inj h; exact Try.underlying28) | (simp at h; subst h; exact Try.underlying28)); (first | (obtain rfl := Option.some.inj h; exact Try.underlying28) | (simp at h; subst h; exact Try.underlying28)); (first | (obtain rfl := Option.some.inj h; exact Try.underlying35) | (simp at h; subst h; exact Try.underlying35)); (exact absurd h (by simp))) (hval 0 37 v0 rfl rfl) h0
  obtain rfl : cs0 = #[.int .i8 (g0 0), .int .i8 (g0 1), .int .i16 (g0 2)] := (Open.agg_list (m := 3) hz0 (fun j hj => (hg0 j hj).1)).trans rfl
  have w0_0 : (Lit.int .i8 (g0 0)).wf = true := (hg0 0 (by decide)).2
  have w0_1 : (Lit.int .i8 (g0 1)).wf = true := (hg0 1 (by decide)).2
  have w0_2 : (Lit.int .i16 (g0 2)).wf = true := (hg0 2 (by decide)).2
  clear hA0 hval0 hsz0 hsz
  have h := Pure.FnExactValidPiece (g0 0) (g0 1) (g0 2) w0_0 w0_1 w0_2
  refine (S.laws_FnExactValidPiece.calls (g0 0) (g0 1) (g0 2) true W  h).mono fun e W' ⟨he, hd⟩ => ?_
  have bel : Below W.heap.size W W' := hd
  subst he
  exact ⟨_, rfl, _, _, _, [], _, [], hW', trodAll_mk1 (shut_bool Try.underlying4 _), (trodAll_cons_mk (Below.trod laidOut (by kernel_rfl) (of_decide_eq_true (by kernel_rfl)) k0 bel lt0) trodAll_mk0), rfl, bel.frame _, fun h => by cases h⟩
theorem c9 : (Rows.fnExactValidPieceRow.inPlace == Try.prog.inPlace 6) = true := by kernel_rfl
theorem c10 : (Rows.fnExactValidPieceRow.unfollowed == Try.prog.unfollowed 6) = true := by kernel_rfl
theorem c11 : (Rows.fnExactValidPieceRow.recurses == Try.prog.recurses 6) = true := by kernel_rfl
theorem c12 : (Rows.fnExactValidPieceRow.named == Try.prog.varsNamed 6) = true := by kernel_rfl
theorem closed : joinedFacts Try.prog 6 Try.f6 Rows.fnExactValidPieceSpec Rows.fnExactValidPieceRow = true :=
  Head.joined_of (by kernel_rfl) Head.laidOut_ Head.mapsRowed_ (by kernel_rfl) (by kernel_rfl) (by kernel_rfl) Head.stops_ (by kernel_rfl) Head.stopKnobs_ c9 c10 c11 c12 (by kernel_rfl) (by kernel_rfl) (by kernel_rfl) (by kernel_rfl) (by kernel_rfl) (by kernel_rfl) (by kernel_rfl) (by kernel_rfl) (by kernel_rfl) (by kernel_rfl) (by kernel_rfl) Head.stopsHeard_ Head.mayEnter (by rw [Head.liftsFinal]; kernel_rfl) (by rw [Head.make]; kernel_rfl) (by kernel_rfl) (by kernel_rfl) (by kernel_rfl) (by kernel_rfl)
theorem over : Rows.fnExactValidPieceRow.holds Try.pinned (OpenSpec.ofChange Rows.fnExactValidPieceSpec) :=
  OpenClaim.holds_of_wide 6 Try.f6 rfl rfl rfl rfl rfl rfl rfl ⟨rfl, rfl, rfl, rfl, rfl⟩ rfl rfl rfl rfl rfl (by kernel_rfl) Try.func6 closed
    (of_decide_eq_true (by kernel_rfl)) (by unfold Func.isWrapper; first | (rw [if_pos (by decide +kernel)]; kernel_rfl) | (rw [if_neg (by decide +kernel)]; exact ⟨rfl, rfl⟩))
    (fun os started H enc _ => lifted os started H enc)
theorem proved : Rows.FnExactValidPieceSaid := over
#print axioms proved
end Go.Proofs.Ytdengckenddcoaa.fnExactValidPiece
namespace Go.Proofs.Ytdengckenddcoaa
/-- The row, under a short name, for the claim. -/
theorem fnExactValidPiece_holds : Rows.FnExactValidPieceSaid := fnExactValidPiece.proved
end Go.Proofs.Ytdengckenddcoaa
