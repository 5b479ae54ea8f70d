import Derived.Test.YthkccaclmodjiaaRows
import Derived.Test.YthkccaclmodjiaazERisingOrderHead
import Derived.Test.YthkccaclmodjiaazERisingOrderI49
import Derived.Test.YthkccaclmodjiaazERisingOrderEOpen
import Derived.Test.YthkccaclmodjiaazERisingOrderEOpen2
import Derived.Test.YthkccaclmodjiaazERisingOrderSayFnExactRisingOrder
import Derived.Test.YthkccaclmodjiaazERisingOrderPureFnExactRisingOrder
import Derived.Test.YthkccaclmodjiaazERisingOrderWords1
import Derived.Test.YthkccaclmodjiaazERisingOrderWords2
import Derived.WalkKit
import Derived.ProofKit
import Derived.OpenShut
import Derived.ShutString
import Derived.ChangeOld
import Derived.Below
import Derived.SizedLaws
namespace Go.Proofs.Ythkccaclmodjiaa.fnExactRisingOrder
open Go.ChangeShapes Go.WideShapes Go.ChangeAt Go.RowKit Go.Proofs.YthkccaclmodjiaaW.PrintWords Go.Proofs.YthkccaclmodjiaaW.PrintLast
open Go.ChangeMaps (open_string shut_string)
set_option linter.unusedVariables false
theorem own : ownKnob Try.prog.godebug = none := by kernel_rfl
theorem laidOut : laidOutB Try.prog = true := by kernel_rfl
set_option maxRecDepth 100000 in
theorem lifted (os : Os) (started : os.Started) (H : Type) (enc : TypeId × Value → H) :
    ReturnsInHanded {} Try.checked os 9 .any (Rows.fnExactRisingOrderSpec.pre6 enc Try.prog Try.f9 Rows.fnExactRisingOrderRow.domain false) (Rows.fnExactRisingOrderSpec.post enc Try.prog Try.f9 false true false false) := by
  refine returnsInHanded_of_change_sized (C := Try.checked) own started (by kernel_rfl) Try.func9
    (ChangeSpec.witness6 (enc := enc) (C := Try.checked) false ⟨#[], #[.slice none 0 0], []⟩ 8 (by kernel_rfl) (by kernel_rfl) (by kernel_rfl) (by kernel_rfl)) ?_
  intro W base args ds gs before hval0 hW hcnd hsz0 _
  have hsz : (DataW.weightsEach Try.prog (Try.f9.params.toList ++ Rows.fnExactRisingOrderSpec.plain.varTypes Try.prog) (ds ++ gs)).all (· ≤ reachBytes) = true := hsz0
  have hval : ∀ (j : Nat) t v, Try.f9.params[j]? = some t → args[j]? = some v → Value.okWide Try.prog W .any base t v := hval0
  have hW' := hW
  obtain ⟨p, q, hA0, hV, rfl, hfz, hnd⟩ := hW
  have hA : DataW.TrodAll enc Try.prog W 0 (fun _ => true) true Try.f9.params.toList args.toList ds p := hA0
  rw [Try.params9] at hA hval hsz
  obtain ⟨v0, vs0, d0, ds0, p0, q0, hargs, rfl, rfl, h0, r0⟩ := trodAll_cons hA
  obtain ⟨rfl, rfl, rfl⟩ := trodAll_nil r0
  obtain rfl : args = #[v0] := by cases args; simp_all
  obtain ⟨rfl, rfl⟩ := trodVars_none hV
  obtain ⟨a0, len0, cap0, rfl⟩ := okWide_slice Try.underlying30 (hval 0 30 v0 rfl rfl)
  have k0 := h0
  have lt0 : ∀ x ∈ p0, x.block < W.heap.size := by obtain ⟨m, hm⟩ := k0; exact DataW.trod_lt m _ _ _ hm
  obtain ⟨hc0, hm0, y0, ho0⟩ := Open.rows_of (kd := (fun j => ([.i8, .i8, .i16] : List IntKind).getD j .i8)) (B := 4) Try.underlying30 Try.underlying69 (by kernel_rfl) (by kernel_rfl) (by intro j f h; rcases j with _ | _ | _ | j; (first | (obtain rfl := Option.some.inj h; exact Try.underlying22) | (simp at h; subst h; exact Try.underlying22)); (first | (obtain rfl := Option.some.inj h; exact Try.underlying22) | (simp at h; subst h; exact Try.underlying22)); (first | (obtain rfl := Option.some.inj h; exact Try.underlying55) | (simp at h; subst h; exact Try.underlying55)); (exact absurd h (by simp))) hsz (i := 0) rfl rfl (by kernel_rfl) h0
  obtain ⟨l0, rfl, hr0, hw0⟩ := I.row_C I.k69 3 (fun g => (⟨g 0, g 1, g 2⟩ : I.S69)) (fun j => ([.i8, .i8, .i16] : List IntKind).getD j .i8) (fun g => I.k69_mk W _) rfl hm0 ho0
  have w0 : ∀ x ∈ l0, (Lit.int .i8 x.f0).wf = true ∧ (Lit.int .i8 x.f1).wf = true ∧ (Lit.int .i16 x.f2).wf = true := by
    intro x hx
    obtain ⟨g, rfl, hg⟩ := hw0 x hx
    exact ⟨hg 0 (by decide), hg 1 (by decide), hg 2 (by decide)⟩
  clear hA0 hval0 hsz0 hsz
  obtain ⟨k, h⟩ := Pure.FnExactRisingOrder l0 y0 w0
  refine (I.laws_FnExactRisingOrder.calls k _ _ l0 true W hr0 hc0 h).mono fun e W' ⟨he, hd⟩ => ?_
  have bel : Below W.heap.size W W' := hd
  subst he
  exact ⟨_, rfl, _, _, _, [], _, [], hW', trodAll_mk1 (shut_bool Try.underlying4 _), (trodAll_cons_mk (Below.trod laidOut (by kernel_rfl) (of_decide_eq_true (by kernel_rfl)) k0 bel lt0) trodAll_mk0), rfl, bel.frame _, fun h => by cases h⟩
theorem c9 : (Rows.fnExactRisingOrderRow.inPlace == Try.prog.inPlace 9) = true := by kernel_rfl
theorem c10 : (Rows.fnExactRisingOrderRow.unfollowed == Try.prog.unfollowed 9) = true := by kernel_rfl
theorem c11 : (Rows.fnExactRisingOrderRow.recurses == Try.prog.recurses 9) = true := by kernel_rfl
theorem c12 : (Rows.fnExactRisingOrderRow.named == Try.prog.varsNamed 9) = true := by kernel_rfl
theorem closed : joinedFacts Try.prog 9 Try.f9 Rows.fnExactRisingOrderSpec Rows.fnExactRisingOrderRow = true :=
  Head.joined_of (by kernel_rfl) Head.laidOut_ Head.mapsRowed_ (by kernel_rfl) (by kernel_rfl) (by kernel_rfl) Head.stops_ (by kernel_rfl) Head.stopKnobs_ c9 c10 c11 c12 (by kernel_rfl) (by kernel_rfl) (by kernel_rfl) (by kernel_rfl) (by kernel_rfl) (by kernel_rfl) (by kernel_rfl) (by kernel_rfl) (by kernel_rfl) (by kernel_rfl) (by kernel_rfl) Head.stopsHeard_ Head.mayEnter (by rw [Head.liftsFinal]; kernel_rfl) (by rw [Head.make]; kernel_rfl) (by kernel_rfl) (by kernel_rfl) (by kernel_rfl) (by kernel_rfl)
theorem over : Rows.fnExactRisingOrderRow.holds Try.pinned (OpenSpec.ofChange Rows.fnExactRisingOrderSpec) :=
  OpenClaim.holds_of_wide 9 Try.f9 rfl rfl rfl rfl rfl rfl rfl ⟨rfl, rfl, rfl, rfl, rfl⟩ rfl rfl rfl rfl rfl (by kernel_rfl) Try.func9 closed
    (of_decide_eq_true (by kernel_rfl)) (by unfold Func.isWrapper; first | (rw [if_pos (by decide +kernel)]; kernel_rfl) | (rw [if_neg (by decide +kernel)]; exact ⟨rfl, rfl⟩))
    (fun os started H enc _ => lifted os started H enc)
theorem proved : Rows.FnExactRisingOrderSaid := over
end Go.Proofs.Ythkccaclmodjiaa.fnExactRisingOrder
namespace Go.Proofs.Ythkccaclmodjiaa
theorem fnExactRisingOrder_holds : Rows.FnExactRisingOrderSaid := fnExactRisingOrder.proved
end Go.Proofs.Ythkccaclmodjiaa
