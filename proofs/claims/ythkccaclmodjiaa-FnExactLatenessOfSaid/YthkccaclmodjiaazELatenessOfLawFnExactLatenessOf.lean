import Derived.Test.YthkccaclmodjiaaRows
import Derived.Test.YthkccaclmodjiaazELatenessOfHead
import Derived.Test.YthkccaclmodjiaazELatenessOfI45
import Derived.Test.YthkccaclmodjiaazELatenessOfEOpen
import Derived.Test.YthkccaclmodjiaazELatenessOfEOpen2
import Derived.Test.YthkccaclmodjiaazELatenessOfSayFnExactLatenessOf
import Derived.Test.YthkccaclmodjiaazELatenessOfPureFnExactLatenessOf
import Derived.Test.YthkccaclmodjiaazELatenessOfWords1
import Derived.Test.YthkccaclmodjiaazELatenessOfWords2
import Derived.WalkKit
import Derived.ProofKit
import Derived.OpenShut
import Derived.ShutString
import Derived.ChangeOld
import Derived.Below
import Derived.SizedLaws
namespace Go.Proofs.Ythkccaclmodjiaa.fnExactLatenessOf
open Go.ChangeShapes Go.WideShapes Go.ChangeAt Go.RowKit Go.Proofs.YthkccaclmodjiaaW.PrintWords Go.Proofs.YthkccaclmodjiaaW.PrintLast
open Go.ChangeMaps (open_string shut_string)
set_option linter.unusedVariables false
theorem own : ownKnob Try.prog.godebug = none := by kernel_rfl
theorem laidOut : laidOutB Try.prog = true := by kernel_rfl
def IsRow (k : IntKind) (w : World) (a : Option Addr) (len cap : Nat) (zs : List Int) : Prop :=
  (a = none ∧ len = 0 ∧ cap = 0 ∧ zs = []) ∨
  ∃ x, a = some x ∧ len ≤ cap ∧ cap ≤ maxLen ∧ zs.length = cap ∧ (∀ i, i < zs.length → w.cell? (x.add i) = some (.int k (zs.getD i 0))) ∧ ∀ n ∈ zs, (Lit.int k n).wf = true
set_option maxRecDepth 100000 in
theorem lifted (os : Os) (started : os.Started) (H : Type) (enc : TypeId × Value → H) :
    ReturnsInHanded {} Try.checked os 13 .any (Rows.fnExactLatenessOfSpec.pre6 enc Try.prog Try.f13 Rows.fnExactLatenessOfRow.domain false) (Rows.fnExactLatenessOfSpec.post enc Try.prog Try.f13 false true false false) := by
  refine returnsInHanded_of_change_sized (C := Try.checked) own started (by kernel_rfl) Try.func13
    (ChangeSpec.witness6 (enc := enc) (C := Try.checked) false ⟨#[], #[.agg #[.int .i8 0, .int .i8 0], .slice none 0 0, .slice none 0 0], []⟩ 8 (by kernel_rfl) (by kernel_rfl) (by kernel_rfl) (by kernel_rfl)) ?_
  intro W base args ds gs before hval0 hW hcnd hsz0 _
  have hsz : (DataW.weightsEach Try.prog (Try.f13.params.toList ++ Rows.fnExactLatenessOfSpec.plain.varTypes Try.prog) (ds ++ gs)).all (· ≤ reachBytes) = true := hsz0
  have hval : ∀ (j : Nat) t v, Try.f13.params[j]? = some t → args[j]? = some v → Value.okWide Try.prog W .any base t v := hval0
  have hW' := hW
  obtain ⟨p, q, hA0, hV, rfl, hfz, hnd⟩ := hW
  have hA : DataW.TrodAll enc Try.prog W 0 (fun _ => true) true Try.f13.params.toList args.toList ds p := hA0
  rw [Try.params13] at hA hval hsz
  obtain ⟨v0, vs0, d0, ds0, p0, q0, hargs, rfl, rfl, h0, r0⟩ := trodAll_cons hA
  obtain ⟨v1, vs1, d1, ds1, p1, q1, rfl, rfl, rfl, h1, r1⟩ := trodAll_cons r0
  obtain ⟨v2, vs2, d2, ds2, p2, q2, rfl, rfl, rfl, h2, r2⟩ := trodAll_cons r1
  obtain ⟨rfl, rfl, rfl⟩ := trodAll_nil r2
  obtain rfl : args = #[v0, v1, v2] := by cases args; simp_all
  obtain ⟨rfl, rfl⟩ := trodVars_none hV
  have k0 := h0
  have lt0 : ∀ x ∈ p0, x.block < W.heap.size := by obtain ⟨m, hm⟩ := k0; exact DataW.trod_lt m _ _ _ hm
  obtain ⟨cs0, g0, rfl, hz0, hg0⟩ := Open.agg_of (kd := (fun j => ([.i8, .i8] : List IntKind).getD j .i8)) Try.underlying24 (by kernel_rfl) (by kernel_rfl) (by intro j f h; rcases j with _ | _ | j; (first | (obtain rfl := Option.some.inj h; exact Try.underlying22) | (simp at h; subst h; exact Try.underlying22)); (first | (obtain rfl := Option.some.inj h; exact Try.underlying22) | (simp at h; subst h; exact Try.underlying22)); (exact absurd h (by simp))) (hval 0 24 v0 rfl rfl) h0
  obtain rfl : cs0 = #[.int .i8 (g0 0), .int .i8 (g0 1)] := (Open.agg_list (m := 2) hz0 (fun j hj => (hg0 j hj).1)).trans rfl
  have w0_0 : (Lit.int .i8 (g0 0)).wf = true := (hg0 0 (by decide)).2
  have w0_1 : (Lit.int .i8 (g0 1)).wf = true := (hg0 1 (by decide)).2
  obtain ⟨a1, len1, cap1, rfl⟩ := okWide_slice Try.underlying30 (hval 1 30 v1 rfl rfl)
  have k1 := h1
  have lt1 : ∀ x ∈ p1, x.block < W.heap.size := by obtain ⟨m, hm⟩ := k1; exact DataW.trod_lt m _ _ _ hm
  obtain ⟨hc1, hm1, y1, ho1⟩ := Open.rows_of (kd := (fun j => ([.i8, .i8, .i16] : List IntKind).getD j .i8)) (B := 4) Try.underlying30 Try.underlying69 (by kernel_rfl) (by kernel_rfl) (by intro j f h; rcases j with _ | _ | _ | j; (first | (obtain rfl := Option.some.inj h; exact Try.underlying22) | (simp at h; subst h; exact Try.underlying22)); (first | (obtain rfl := Option.some.inj h; exact Try.underlying22) | (simp at h; subst h; exact Try.underlying22)); (first | (obtain rfl := Option.some.inj h; exact Try.underlying55) | (simp at h; subst h; exact Try.underlying55)); (exact absurd h (by simp))) hsz (i := 1) rfl rfl (by kernel_rfl) h1
  obtain ⟨l1, rfl, hr1, hw1⟩ := I.row_C I.k69 3 (fun g => (⟨g 0, g 1, g 2⟩ : I.S69)) (fun j => ([.i8, .i8, .i16] : List IntKind).getD j .i8) (fun g => I.k69_mk W _) rfl hm1 ho1
  have w1 : ∀ x ∈ l1, (Lit.int .i8 x.f0).wf = true ∧ (Lit.int .i8 x.f1).wf = true ∧ (Lit.int .i16 x.f2).wf = true := by
    intro x hx
    obtain ⟨g, rfl, hg⟩ := hw1 x hx
    exact ⟨hg 0 (by decide), hg 1 (by decide), hg 2 (by decide)⟩
  obtain ⟨a2, len2, cap2, rfl⟩ := okWide_slice Try.underlying37 (hval 2 37 v2 rfl rfl)
  have k2 := h2
  have lt2 : ∀ x ∈ p2, x.block < W.heap.size := by obtain ⟨m, hm⟩ := k2; exact DataW.trod_lt m _ _ _ hm
  obtain ⟨z2, w2⟩ : ∃ zs, IsRow .i64 W a2 len2 cap2 zs := by
    obtain ⟨fuel, hf⟩ := h2
    rcases open_ints Try.underlying37 Try.underlying2 (by kernel_rfl) hf with ⟨hcs, _⟩ | ⟨x, l, c, zs, hcs, _, hl, hm, hz, _, hcell, hwz⟩
    · simp [Value.cells] at hcs
      obtain ⟨rfl, rfl, rfl⟩ := hcs
      exact ⟨[], .inl ⟨rfl, rfl, rfl, rfl⟩⟩
    · simp [Value.cells] at hcs
      obtain ⟨rfl, rfl, rfl⟩ := hcs
      exact ⟨zs, .inr ⟨_, rfl, hl, hm, by simpa using hz, hcell, hwz⟩⟩
  have y2 : len2 * 8 ≤ 140737488351232 := Go.Proofs.YthkccaclmodjiaaW.PrintWords.sized_ints hsz (j := 2) (t := 37) rfl rfl Try.underlying37 Try.underlying2 (by kernel_rfl) (by kernel_rfl) h2
  obtain ⟨l2, rfl, hr2, hm2, hw2, hc2⟩ := ReadsInt.ofRowC w2
  clear hA0 hval0 hsz0 hsz
  obtain ⟨k, h⟩ := Pure.FnExactLatenessOf (g0 0) (g0 1) l1 l2 w0_0 w0_1 y1 w1 hm2 y2 hw2
  refine (I.laws_FnExactLatenessOf.calls k (g0 0) (g0 1) _ _ l1 _ _ l2 true W hr1 hc1 (Kd.C_of_reads (d := (0 : Int)) (h1 := fun _ => rfl) hr2) hc2 h).mono fun e W' ⟨he, hd⟩ => ?_
  have bel : Below W.heap.size W W' := hd
  subst he
  exact ⟨_, rfl, _, _, _, [], _, [], hW', trodAll_mk1 (shut_bool Try.underlying4 _), (trodAll_cons_mk (Below.trod laidOut (by kernel_rfl) (of_decide_eq_true (by kernel_rfl)) k0 bel lt0) (trodAll_cons_mk (Below.trod laidOut (by kernel_rfl) (of_decide_eq_true (by kernel_rfl)) k1 bel lt1) (trodAll_cons_mk (Below.trod laidOut (by kernel_rfl) (of_decide_eq_true (by kernel_rfl)) k2 bel lt2) trodAll_mk0))), rfl, bel.frame _, fun h => by cases h⟩
theorem c9 : (Rows.fnExactLatenessOfRow.inPlace == Try.prog.inPlace 13) = true := by kernel_rfl
theorem c10 : (Rows.fnExactLatenessOfRow.unfollowed == Try.prog.unfollowed 13) = true := by kernel_rfl
theorem c11 : (Rows.fnExactLatenessOfRow.recurses == Try.prog.recurses 13) = true := by kernel_rfl
theorem c12 : (Rows.fnExactLatenessOfRow.named == Try.prog.varsNamed 13) = true := by kernel_rfl
theorem closed : joinedFacts Try.prog 13 Try.f13 Rows.fnExactLatenessOfSpec Rows.fnExactLatenessOfRow = true :=
  Head.joined_of (by kernel_rfl) Head.laidOut_ Head.mapsRowed_ (by kernel_rfl) (by kernel_rfl) (by kernel_rfl) Head.stops_ (by kernel_rfl) Head.stopKnobs_ c9 c10 c11 c12 (by kernel_rfl) (by kernel_rfl) (by kernel_rfl) (by kernel_rfl) (by kernel_rfl) (by kernel_rfl) (by kernel_rfl) (by kernel_rfl) (by kernel_rfl) (by kernel_rfl) (by kernel_rfl) Head.stopsHeard_ Head.mayEnter (by rw [Head.liftsFinal]; kernel_rfl) (by rw [Head.make]; kernel_rfl) (by kernel_rfl) (by kernel_rfl) (by kernel_rfl) (by kernel_rfl)
theorem over : Rows.fnExactLatenessOfRow.holds Try.pinned (OpenSpec.ofChange Rows.fnExactLatenessOfSpec) :=
  OpenClaim.holds_of_wide 13 Try.f13 rfl rfl rfl rfl rfl rfl rfl ⟨rfl, rfl, rfl, rfl, rfl⟩ rfl rfl rfl rfl rfl (by kernel_rfl) Try.func13 closed
    (of_decide_eq_true (by kernel_rfl)) (by unfold Func.isWrapper; first | (rw [if_pos (by decide +kernel)]; kernel_rfl) | (rw [if_neg (by decide +kernel)]; exact ⟨rfl, rfl⟩))
    (fun os started H enc _ => lifted os started H enc)
theorem proved : Rows.FnExactLatenessOfSaid := over
end Go.Proofs.Ythkccaclmodjiaa.fnExactLatenessOf
namespace Go.Proofs.Ythkccaclmodjiaa
theorem fnExactLatenessOf_holds : Rows.FnExactLatenessOfSaid := fnExactLatenessOf.proved
end Go.Proofs.Ythkccaclmodjiaa
