-- Written by this session's program pr.py: the row of the law FnExactPiecesText.
import Derived.Test.YthkccaclmodjiaaDoorRows
import Derived.Test.YthkccaclmodjiaaDoorHead
import Derived.Test.YthkccaclmodjiaaDoorEDLaw
import Derived.Test.YthkccaclmodjiaaDoorTie
import Derived.Test.YthkccaclmodjiaaDoorCards
import Derived.Handed
import Derived.LaidLaws
import Derived.Lib.LaidTab
import Derived.SevenTiedAt
import Derived.Test.YthkccaclmodjiaaDoorEOpen
import Derived.Test.YthkccaclmodjiaaDoorEOpen2
import Derived.WalkKit
import Derived.ProofKit
import Derived.OpenShut
import Derived.ShutString
import Derived.ChangeOld
import Derived.Below
import Derived.SizedLaws
import Derived.Test.YthkccaclmodjiaaDoorWords1
import Derived.Test.YthkccaclmodjiaaDoorWords2
namespace Go.Proofs.YthkccaclmodjiaaDoor.fnExactPiecesText
open Go.ChangeShapes Go.WideShapes Go.ChangeAt Go.RowKit Go.Proofs.YthkccaclmodjiaaDoorW.PrintWords Go.Proofs.YthkccaclmodjiaaDoorW.PrintLast
open Go.ChangeMaps (open_string shut_string)
set_option linter.unusedVariables false
theorem own : ownKnob Tryd.prog.godebug = none := by kernel_rfl
theorem laidOut : laidOutB Tryd.prog = true := by kernel_rfl
theorem gT : Tryd.prog.globalNamed "internal/strconv.uint64pow10" = some 0 := by kernel_rfl
theorem gTy : (Tryd.prog.globals[0]?).map (·.type) = some 75 := by kernel_rfl
theorem cells66 : Tryd.prog.cellsOf 65 = 1 := by kernel_rfl
theorem cells75 : Tryd.prog.cellsOf 75 = 20 := by kernel_rfl
def laidIn (cs : Array Value) : Obj → Obj
  | .cells _ t frozen => .cells cs t frozen
  | o => o
/-- The settled world, the three tables holding what their initialisers lay: the witness. -/
noncomputable def laidWorld (os : Os) : World :=
  { World.holding Tryd.prog os ⟨#[], #[], []⟩ with heap := (((World.holding Tryd.prog os ⟨#[], #[], []⟩).heap.modify 0 (laidIn ((Lib.pow10Tab.map fun z => Value.int .u64 z).toArray))).modify 2 (laidIn #[.int .u8 0, .int .u8 1, .int .u8 28, .int .u8 2, .int .u8 29, .int .u8 14, .int .u8 24, .int .u8 3, .int .u8 30, .int .u8 22, .int .u8 20, .int .u8 15, .int .u8 25, .int .u8 17, .int .u8 4, .int .u8 8, .int .u8 31, .int .u8 27, .int .u8 13, .int .u8 23, .int .u8 21, .int .u8 19, .int .u8 16, .int .u8 7, .int .u8 26, .int .u8 12, .int .u8 18, .int .u8 6, .int .u8 11, .int .u8 5, .int .u8 10, .int .u8 9])).modify 3 (laidIn #[.int .u8 0, .int .u8 1, .int .u8 56, .int .u8 2, .int .u8 57, .int .u8 49, .int .u8 28, .int .u8 3, .int .u8 61, .int .u8 58, .int .u8 42, .int .u8 50, .int .u8 38, .int .u8 29, .int .u8 17, .int .u8 4, .int .u8 62, .int .u8 47, .int .u8 59, .int .u8 36, .int .u8 45, .int .u8 43, .int .u8 51, .int .u8 22, .int .u8 53, .int .u8 39, .int .u8 33, .int .u8 30, .int .u8 24, .int .u8 18, .int .u8 12, .int .u8 5, .int .u8 63, .int .u8 55, .int .u8 48, .int .u8 27, .int .u8 60, .int .u8 41, .int .u8 37, .int .u8 16, .int .u8 46, .int .u8 35, .int .u8 44, .int .u8 21, .int .u8 52, .int .u8 32, .int .u8 23, .int .u8 11, .int .u8 54, .int .u8 26, .int .u8 40, .int .u8 15, .int .u8 34, .int .u8 20, .int .u8 31, .int .u8 10, .int .u8 25, .int .u8 14, .int .u8 19, .int .u8 9, .int .u8 13, .int .u8 8, .int .u8 7, .int .u8 6]) }
theorem laid_met (os : Os) (args : Array Value) : laidMetH Tryd.prog Rows.fnExactPiecesTextRow.laid ((laidWorld os).forCall (fun _ _ => 0) ⟨#[], args, []⟩).memory :=
  (laidMet_of_run' 8 (by kernel_rfl) (by kernel_rfl) : laidMet Tryd.prog Rows.fnExactPiecesTextRow.laid ((laidWorld os).forCall (fun _ _ => 0) ⟨#[], args, []⟩).memory)
theorem tab_of (W : World) (h : laidMetH Tryd.prog Rows.fnExactPiecesTextRow.laid W) : D.Tab W := by
  have h' : laidMet Tryd.prog Rows.fnExactPiecesTextRow.laid W := h
  obtain ⟨ps, ⟨_, _, _, _, _, _, _, _, _, _, ⟨_, _, _, _, _, _, _, _, _, _, ⟨g', t', cs, fuel, p, q, hg', ht', hvar, hd, _, _⟩, _⟩, _⟩, _⟩ := h'
  obtain rfl := Option.some.inj (gT.symm.trans hg')
  obtain rfl := Option.some.inj (gTy.symm.trans ht')
  unfold D.Tab Lib.TabIs
  rw [hvar, ← Lib.cells_of_tab (k := .u64) (zs := Lib.pow10Tab) Tryd.underlying75 Tryd.underlying65 cells66 cells75 hd]
set_option maxRecDepth 100000 in
theorem lifted (os : Os) (started : os.Started) (H : Type) (enc : TypeId × Value → H) :
    ReturnsInHanded {} Tryd.checked os 3 .any (fun w args => (Rows.fnExactPiecesTextSpec.pre enc Tryd.prog Tryd.f3 Rows.fnExactPiecesTextRow.domain false w args ∧ laidMetH Tryd.prog Rows.fnExactPiecesTextRow.laid w) ∧ sizedMet enc Tryd.prog Tryd.f3 (OpenSpec.ofChange Rows.fnExactPiecesTextSpec) false w args) (Rows.fnExactPiecesTextSpec.post enc Tryd.prog Tryd.f3 false true false false) := by
  refine returnsInHanded_of_change_and (C := Tryd.checked) (X := fun w _ => laidMetH Tryd.prog Rows.fnExactPiecesTextRow.laid w) (fun _ _ _ hh h => h.of_heap hh) own started (by kernel_rfl) Tryd.func3
    (ChangeSpec.witness_at (enc := enc) (C := Tryd.checked) (os := os) (X := fun w _ => laidMetH Tryd.prog Rows.fnExactPiecesTextRow.laid w) false (laidWorld os) #[.slice none 0 0] 8 rfl (by kernel_rfl) (by kernel_rfl) (by kernel_rfl) (by kernel_rfl) (by kernel_rfl) (laid_met os _)) ?_
  intro W base args ds gs before hval0 hW hcnd hsz0 hL _
  have hsz : (DataW.weightsEach Tryd.prog (Tryd.f3.params.toList ++ Rows.fnExactPiecesTextSpec.plain.varTypes Tryd.prog) (ds ++ gs)).all (· ≤ reachBytes) = true := hsz0
  have hval : ∀ (j : Nat) t v, Tryd.f3.params[j]? = some t → args[j]? = some v → Value.okWide Tryd.prog W .any base t v := hval0
  have hW' := hW
  obtain ⟨p, q, hA0, hV, rfl, hfz, hnd⟩ := hW
  have hA : DataW.TrodAll enc Tryd.prog W 0 (fun _ => true) true Tryd.f3.params.toList args.toList ds p := hA0
  rw [Tryd.params3] at hA hval hsz
  obtain ⟨v0, vs0, d0, ds0, p0, q0, hargs, rfl, rfl, h0, r0⟩ := trodAll_cons hA
  obtain ⟨rfl, rfl, rfl⟩ := trodAll_nil r0
  obtain rfl : args = #[v0] := by cases args; simp_all
  obtain ⟨rfl, rfl⟩ := trodVars_none hV
  obtain ⟨a0, len0, cap0, rfl⟩ := okWide_slice Tryd.underlying22 (hval 0 22 v0 rfl rfl)
  have k0 := h0
  have lt0 : ∀ x ∈ p0, x.block < W.heap.size := by obtain ⟨m, hm⟩ := k0; exact DataW.trod_lt m _ _ _ hm
  obtain ⟨hc0, hm0, y0, ho0⟩ := Open.rows_of (kd := (fun j => ([.i8, .i8, .i16] : List IntKind).getD j .i8)) (B := 4) Tryd.underlying22 Tryd.underlying37 (by kernel_rfl) (by kernel_rfl) (by intro j f h; rcases j with _ | _ | _ | j; (first | (obtain rfl := Option.some.inj h; exact Tryd.underlying30) | (simp at h; subst h; exact Tryd.underlying30)); (first | (obtain rfl := Option.some.inj h; exact Tryd.underlying30) | (simp at h; subst h; exact Tryd.underlying30)); (first | (obtain rfl := Option.some.inj h; exact Tryd.underlying33) | (simp at h; subst h; exact Tryd.underlying33)); (exact absurd h (by simp))) hsz (i := 0) rfl rfl (by kernel_rfl) h0
  obtain ⟨l0, rfl, hr0, hw0⟩ := D.row_C D.k37 3 (fun g => (⟨g 0, g 1, g 2⟩ : D.S37)) (fun j => ([.i8, .i8, .i16] : List IntKind).getD j .i8) (fun g => D.k37_mk W _) rfl hm0 ho0
  have w0 : ∀ x ∈ l0, (Lit.int .i8 x.f0).wf = true ∧ (Lit.int .i8 x.f1).wf = true ∧ (Lit.int .i16 x.f2).wf = true := by
    intro x hx
    obtain ⟨g, rfl, hg⟩ := hw0 x hx
    exact ⟨hg 0 (by decide), hg 1 (by decide), hg 2 (by decide)⟩
  clear hA0 hval0 hsz0 hsz
  refine (D.pieceLaw_all _ _ l0 W hr0 hc0 y0 (tab_of W hL)).mono fun e W' ⟨he, hd⟩ => ?_
  have bel : Below W.heap.size W W' := hd
  subst he
  exact ⟨_, rfl, _, _, _, [], _, [], hW', trodAll_mk1 (shut_bool Tryd.underlying4 _), (trodAll_cons_mk (Below.trod laidOut (by kernel_rfl) (of_decide_eq_true (by kernel_rfl)) k0 bel lt0) trodAll_mk0), rfl, bel.frame _, fun h => by cases h⟩
theorem c9 : (Rows.fnExactPiecesTextRow.inPlace == Tryd.prog.inPlace 3) = true := by kernel_rfl
theorem c10 : (Rows.fnExactPiecesTextRow.unfollowed == Tryd.prog.unfollowed 3) = true := by kernel_rfl
theorem c11 : (Rows.fnExactPiecesTextRow.recurses == Tryd.prog.recurses 3) = true := by kernel_rfl
theorem c12 : (Rows.fnExactPiecesTextRow.named == Tryd.prog.varsNamed 3) = true := by kernel_rfl
theorem closed : joinedFacts Tryd.prog 3 Tryd.f3 Rows.fnExactPiecesTextSpec Rows.fnExactPiecesTextRow = true :=
  Head.joined_of (by kernel_rfl) Head.laidOut_ Head.mapsRowed_ (by kernel_rfl) (by kernel_rfl) (by kernel_rfl) Head.stops_ (by kernel_rfl) Head.stopKnobs_ c9 c10 c11 c12 (by kernel_rfl) (by kernel_rfl) (by kernel_rfl) (by kernel_rfl) (by kernel_rfl) (by kernel_rfl) (by kernel_rfl) (by kernel_rfl) (by kernel_rfl) (by kernel_rfl) (by kernel_rfl) Head.stopsHeard_ Head.mayEnter (by rw [Head.liftsFinal]; kernel_rfl) (by rw [Head.make]; kernel_rfl) (by kernel_rfl) (by kernel_rfl) (by kernel_rfl) (by kernel_rfl)
theorem over : Rows.fnExactPiecesTextRow.holds Tryd.pinned (OpenSpec.ofChange Rows.fnExactPiecesTextSpec) :=
  OpenClaim.holds_of_wide 3 Tryd.f3 rfl rfl rfl rfl rfl rfl rfl ⟨rfl, rfl, rfl, rfl, rfl⟩ rfl rfl rfl rfl rfl (by kernel_rfl) Tryd.func3 closed
    (of_decide_eq_true (by kernel_rfl)) (by unfold Func.isWrapper; first | (rw [if_pos (by decide +kernel)]; kernel_rfl) | (rw [if_neg (by decide +kernel)]; exact ⟨rfl, rfl⟩))
    (fun os started H enc _ => lifted os started H enc)
theorem proved : Rows.FnExactPiecesTextSaid := over
#print axioms proved
end Go.Proofs.YthkccaclmodjiaaDoor.fnExactPiecesText
namespace Go.Proofs.YthkccaclmodjiaaDoor
/-- The tied card, under a short name, for the claim. -/
theorem fnExactPiecesText_holds : Rows.FnExactPiecesTextCardSaid :=
  Claim7.holds_tied_plain_at .later [] [.data, .data, .data] true (true, "e3a0864cee2df764fb85c628bac95c343a33c5a32ddc1112fc83144dd712c7cb") false
    fnExactPiecesText.proved (fun _ h => by cases h) (by kernel_rfl) (fun _ h => by cases h) fnExactPiecesText_row_tie rfl ⟨rfl, rfl⟩ (by kernel_rfl) rfl
    (fun f fn hf hfn => by
      obtain rfl : f = 3 := Option.some.inj ((show Tryd.prog.funcNamed "loop.example/g01378/laws.FnExactPiecesText" = some 3 by kernel_rfl).symm.trans hf) |>.symm
      obtain rfl : fn = Tryd.f3 := (Option.some.inj (Tryd.func3.symm.trans hfn)).symm
      exact ⟨by kernel_rfl, fun j t ht => by
        rw [Tryd.params3] at ht
        have h3 : t = 22 := by
          rcases j with _ | j
          · simpa using ht.symm
          · simp at ht
        subst h3
        exact (show Tryd.prog.wantsStandIn 22 = false by kernel_rfl)⟩)
    (by kernel_rfl)
#print axioms fnExactPiecesText_holds
end Go.Proofs.YthkccaclmodjiaaDoor
