import Derived.Test.YthkccaclmodjiaazFLateEBSort
import Derived.Test.YthkccaclmodjiaazFLateELayI
import Derived.Test.YthkccaclmodjiaazFLateEBLem1
import Derived.Test.YthkccaclmodjiaazFLateEBTime
import Derived.Test.YthkccaclmodjiaazFLateEBOrd
import Derived.Test.YthkccaclmodjiaazFLateEBTwo
import Derived.Test.YthkccaclmodjiaazFLateEIron2
import Derived.Test.YthkccaclmodjiaazFLateEChoose
import Derived.Test.YthkccaclmodjiaazFLateELayS
import Derived.Test.YthkccaclmodjiaazFLateEPieceCode
import Derived.Test.YthkccaclmodjiaazFLateESortLst
import Derived.Test.YthkccaclmodjiaazFLateI0
import Derived.Test.YthkccaclmodjiaazFLateI1
import Derived.Test.YthkccaclmodjiaazFLateI28
import Derived.Test.YthkccaclmodjiaazFLateI30
import Derived.Test.YthkccaclmodjiaazFLateI31
import Derived.Test.YthkccaclmodjiaazFLateI32
import Derived.Test.YthkccaclmodjiaazFLateI44
import Derived.Test.YthkccaclmodjiaazFLateI54
import Derived.Test.YthkccaclmodjiaazFLateEOrders2
import Derived.Test.YthkccaclmodjiaazFLateIS0
namespace Go.Proofs.Ythkccaclmodjiaa.Pure
open Go.RowKit Go.Proofs.Ythkccaclmodjiaa.I Go.Proofs.YthkccaclmodjiaaW.PrintWords Go.Proofs.YthkccaclmodjiaaW.PrintLast Go.Proofs.YthkccaclmodjiaaW.PrintMore
set_option linter.unusedVariables false
set_option linter.unusedSimpArgs false
theorem same_ev (l : List Int) (hm : l.length ≤ 1048576) : Ev (fun k => spec_SameNumbers.f k l l) true := by
 have h : Ev (fun k => spec_l00Same.f k l l) true := by
  have L : ∀ d i : Nat, i + d = l.length → Ev (fun k => spec_l00Same.l0 k l l (i : Int)) true := by
   intro d
   induction d with
   | zero => intro i hi; exact Ev.step (fun k => by rw [spec_l00Same.l0]) (Ev.ite_f (by omega) (Ev.const rfl))
   | succ d ih =>
    intro i hi
    refine Ev.step (fun k => by rw [spec_l00Same.l0]) (Ev.ite_t (by omega) (Ev.ite_t (by omega) (Ev.ite_t (by omega) (Ev.ite_t rfl ?_))))
    rw [show wrap64 ((i : Int) + 1) = ((i + 1 : Nat) : Int) by rw [w64 _ (by omega) (by omega)]; rfl]
    exact ih (i + 1) (by omega)
  exact Ev.ite_t rfl (L l.length 0 (by omega))
 exact Ev.bind h (Ev.const rfl)
theorem hasNum_ev (l : List Int) (x : Int) (hm : l.length ≤ 1048576) : Ev (fun k => spec_HasNumber.f k l x) (l.contains x) :=
 Ev.bind (has_ev l x (by omega)) (Ev.const rfl)
theorem next_w (i : Nat) (h : i ≤ 100000) : wrap64 ((i : Int) + 1) = ((i + 1 : Nat) : Int) := by rw [w64 _ (by omega) (by omega)]; rfl
theorem rd6 (ls : List (List Int)) (k : Nat) : rd_L6 ls (k : Int) = ls.getD k [] := by
 show ls.getD (k : Int).toNat [] = _
 rw [Int.toNat_natCast]
theorem valid_ev (l : List S57) (hf : Fine l) (h8 : l.length ≤ 8) (d : Nat) : ∀ i : Nat, i + d = l.length → Ev (fun k => laws_FnLate.l3 k l (i : Int)) true := by
 induction d with
 | zero =>
  intro i hi
  exact Ev.step (fun k => by rw [laws_FnLate.l3]) (Ev.ite_f (by omega) (Ev.const rfl))
 | succ d ih =>
  intro i hi
  have f := piece_at l hf (i : Int) (by omega) (by omega)
  have hv : impl_ValidPiece.f (rd_T57 l (i : Int)).f0 (rd_T57 l (i : Int)).f1 (rd_T57 l (i : Int)).f2 = some true := by
   unfold impl_ValidPiece.f impl_within.f
   rw [f.1, f.2.1, f.2.2.1]
   rw [if_pos (by omega), Option.bind_some, decide_eq_true (by omega), if_pos rfl, if_pos (by omega), Option.bind_some, decide_eq_true (by omega), if_pos rfl, if_pos (by omega), Option.bind_some, decide_eq_true (by omega)]
  refine Ev.step (fun k => by rw [laws_FnLate.l3]) (Ev.ite_t (by omega) (Ev.ite_t (by omega) (Ev.bind (Ev.const hv) (Ev.ite_t rfl ?_))))
  rw [next_w i (by omega)]
  exact ih (i + 1) (by omega)
theorem code_sure (x y : Int) (l : List S57) (hx : 0 ≤ x ∧ x ≤ 60) (hy : 0 ≤ y ∧ y ≤ 60) (hf : Fine l) (h8 : l.length ≤ 8) : codeIron x y l = 0 := by
 have hi : okIron x y = true := by
  unfold okIron
  rw [w64 x (by omega) (by omega), w64 y (by omega) (by omega)]
  simp only [Bool.and_eq_true, decide_eq_true_eq]
  omega
 unfold codeIron codeOf
 rw [if_pos hi, if_neg, if_pos h8]
 intro h
 obtain ⟨p, hp, hk⟩ := List.any_eq_true.mp h
 have f := hf p hp
 have : okPiece p = true := by
  unfold okPiece
  rw [f.1, f.2.1, f.2.2.1]
  simp only [Bool.and_eq_true, decide_eq_true_eq]
  omega
 rw [this] at hk
 exact absurd hk (by decide)
theorem each_ev {l : List S57} {o t : List Int} (H : Lates l o t) (L : List (List Int)) (q : Nat) (hq : q < L.length) (hL : L.length ≤ 8) (ho : L.getD q [] = o) (few low x y : Int) (next : Ev (fun k => laws_FnLate.l1 k l few low L ((q + 1 : Nat) : Int) x y) true) (d : Nat) : ∀ i : Nat, i + d = o.length →
 Ev (fun k => laws_FnLate.l2 k l few low L (q : Int) (lateUp l o t l.length) (lateSum l o t o.length) t (lateSum l o t i) (i : Int) x y) true := by
 have h8 := H.len8
 have hlt := H.lent
 induction d with
 | zero =>
  intro i hi
  obtain rfl : i = o.length := by omega
  refine Ev.step (fun k => by rw [laws_FnLate.l2]) (Ev.ite_f (by omega) (Ev.ite_t rfl ?_))
  rw [next_w q (by omega)]
  exact next
 | succ d ih =>
  intro i hi
  have nx := ih (i + 1) (by omega)
  obtain ⟨r, b, w, d0, d1⟩ := H.at_ i (by omega)
  have sb := lateSum_bd H i (by omega)
  have hul := lateUp_len (l := l) (t := t) H.nodup l.length
  have hn := hasNum_ev (lateUp l o t l.length) (rd o (i : Int)) (by have := H.len; omega)
  have hc : (lateUp l o t l.length).contains (rd o (i : Int)) = decide (rd t (i : Int) - (rd_T57 l (rd o (i : Int))).f2 > 0) := by
   rw [Bool.eq_iff_iff, List.contains_iff_mem, lateUp_mem H.nodup, decide_eq_true_eq]
   constructor
   · rintro ⟨_, _, j, hj, e, hg⟩
     have : j = i := by
      refine Classical.byContradiction fun hne => ?_
      rcases Nat.lt_or_gt_of_ne hne with hlt | hgt
      · exact rd_inj H.nodup (show i < o.length by omega) hlt e
      · exact rd_inj H.nodup hj hgt e.symm
     subst this
     omega
   · intro hg
     exact ⟨r.1, by omega, i, by omega, rfl, by omega⟩
  rw [hc] at hn
  have ws : wrap64 (rd t (i : Int) - wrap64 (rd_T57 l (rd o (i : Int))).f2) = rd t (i : Int) - (rd_T57 l (rd o (i : Int))).f2 := by rw [w, w64 _ (by omega) (by omega)]
  have su : wrap64 (lateSum l o t i + mx 0 (rd t (i : Int) - (rd_T57 l (rd o (i : Int))).f2)) = lateSum l o t (i + 1) := by
   rw [lateSum]
   unfold mx
   by_cases c : rd t (i : Int) > (rd_T57 l (rd o (i : Int))).f2
   · rw [if_pos c, if_pos (by omega), w64 _ (by omega) (by omega)]
   · rw [if_neg c, if_neg (by omega), w64 _ (by omega) (by omega)]; omega
  refine Ev.step (fun k => by rw [laws_FnLate.l2]) (Ev.ite_t (by omega) (Ev.ite_t (by omega) (Ev.ite_t (by omega) (Ev.ite_t (by omega) ?_))))
  rw [rd6, ho, ws, su, next_w i (by omega)]
  refine Ev.ite_t (by omega) (Ev.ite_t r.1 (Ev.ite_t r.2 (Ev.bind hn (Ev.ite_f (by simp) nx))))
theorem implLateness_ev (x y : Int) (l : List S57) (o : List Int) (ho : o.length ≤ 1048576) (ht : Typed l) (hx : -128 ≤ x ∧ x ≤ 127) (hy : -128 ≤ y ∧ y ≤ 127) : Ev (fun k => impl_LatenessOf.f k x y l o) (latenessOf x y l o) := by
 have b := orderCode_ev x y l o ho
 unfold latenessOf
 by_cases c : codeOrd x y l o = 0
 · obtain ⟨h8, h1, h2⟩ := times_both x y l o ht hx hy c
   have L := implLate_ev (lates_of x y l o ht hx hy c)
   rw [if_pos c]
   rw [c] at b
   exact Ev.bind b (Ev.ite_t rfl (Ev.bind (Ev.bind h1 L) (Ev.const rfl)))
 · rw [if_neg c]
   exact Ev.bind b (Ev.ite_f c (Ev.const rfl))
theorem specFinish_ev (x y : Int) (l : List S57) (o : List Int) (hm : l.length ≤ 4611686018427387904) (ho : o.length ≤ 1048576) (ht : Typed l) (hx : -128 ≤ x ∧ x ≤ 127) (hy : -128 ≤ y ∧ y ≤ 127) : Ev (fun k => spec_FinishTimes.f k x y l o) (finishTimes x y l o) := by
 have a := ordered_ev x y l o hm ho
 unfold finishTimes
 by_cases c : codeOrd x y l o = 0
 · obtain ⟨h8, h1, h2⟩ := times_both x y l o ht hx hy c
   rw [if_pos c]
   rw [c] at a
   exact Ev.bind a (Ev.ite_t rfl (Ev.bind h2 (Ev.const rfl)))
 · rw [if_neg c]
   exact Ev.bind a (Ev.ite_f c (Ev.const rfl))
theorem order_ev {x y : Int} {l : List S57} {o : List Int} (hx : 0 ≤ x ∧ x ≤ 60) (hy : 0 ≤ y ∧ y ≤ 60) (hf : Fine l) (h8 : l.length ≤ 8) (hb : Begun l.length o) (hl : o.length = l.length) (L : List (List Int)) (q : Nat) (hq : q < L.length) (hL : L.length ≤ 8) (ho : L.getD q [] = o) (few low : Int)
 (h1 : few ≤ ((lateUp l o (timesOf x y l 0 0 o) l.length).length : Int)) (h2 : low ≤ lateSum l o (timesOf x y l 0 0 o) o.length) (h3 : q = 0 → ((lateUp l o (timesOf x y l 0 0 o) l.length).length : Int) = few) (h4 : q = 1 → lateSum l o (timesOf x y l 0 0 o) o.length = low)
 (next : Ev (fun k => laws_FnLate.l1 k l few low L ((q + 1 : Nat) : Int) x y) true) : Ev (fun k => laws_FnLate.l1 k l few low L (q : Int) x y) true := by
 have hc : codeOrd x y l o = 0 := by
  unfold codeOrd
  rw [if_pos (code_sure x y l hx hy hf h8), if_pos ((isOrd_iff o l.length).mpr ⟨hl, hb.nodup, hb.range⟩)]
 have ht : Typed l := fun p hp => by
  have f := hf p hp
  exact ⟨⟨by omega, by omega⟩, ⟨by omega, by omega⟩, ⟨by omega, by omega⟩⟩
 have H := lates_of x y l o ht ⟨by omega, by omega⟩ ⟨by omega, by omega⟩ hc
 obtain ⟨sI, iI⟩ := LateIn_both x y l o (by omega) (by omega) ht ⟨by omega, by omega⟩ ⟨by omega, by omega⟩
 have iL := implLateness_ev x y l o (by omega) ht ⟨by omega, by omega⟩ ⟨by omega, by omega⟩
 have sF := specFinish_ev x y l o (by omega) (by omega) ht ⟨by omega, by omega⟩ ⟨by omega, by omega⟩
 have e1 : lateIn x y l o = (lateUp l o (timesOf x y l 0 0 o) l.length, 0) := by unfold lateIn; rw [if_pos hc]
 have e2 : latenessOf x y l o = (lateSum l o (timesOf x y l 0 0 o) o.length, 0) := by unfold latenessOf; rw [if_pos hc]
 have e3 : finishTimes x y l o = (timesOf x y l 0 0 o, 0) := by unfold finishTimes; rw [if_pos hc]
 rw [e1] at sI iI
 rw [e2] at iL
 rw [e3] at sF
 have tl := timesOf_len x y l o 0 0
 have each := each_ev H L q hq hL ho few low x y next o.length 0 (by omega)
 have ul := lateUp_len (l := l) (t := timesOf x y l 0 0 o) hb.nodup l.length
 generalize timesOf x y l 0 0 o = t at *
 have J : Ev (fun k => laws_FnLate.j4 k l few low L (q : Int) (lateUp l o t l.length) (lateSum l o t o.length) t false x y) true := by
  refine Ev.step (fun k => by rw [laws_FnLate.j4]) (Ev.ite_f (by decide) ?_)
  exact each
 have er : rd_L6 L (q : Int) = o := by rw [rd6, ho]
 refine Ev.step (fun k => by rw [laws_FnLate.l1]) (Ev.ite_t (by omega) (Ev.ite_t (by omega) ?_))
 rw [er]
 refine Ev.bind iI (Ev.bind sI (Ev.bind iL (Ev.bind sF (Ev.ite_t rfl (Ev.ite_t rfl (Ev.bind (same_ev _ (by dsimp only; omega)) (Ev.ite_t rfl (Ev.ite_t rfl (Ev.ite_t rfl (Ev.ite_t (by dsimp only; omega) (Ev.ite_f (by dsimp only; omega) (Ev.ite_f (by dsimp only; omega) ?_))))))))))))
 dsimp only
 by_cases q0 : q = 0
 · refine Ev.ite_t (by omega) (Ev.ite_t (h3 q0) (Ev.ite_f (by omega) J))
 · refine Ev.ite_f (by omega) ?_
   by_cases q1 : q = 1
   · refine Ev.ite_t (by omega) ?_
     rw [h4 q1, bne_self_eq_false]
     rw [h4 q1] at J
     exact J
   · exact Ev.ite_f (by omega) J
theorem rise_ev {l : List S57} (hf : Fine l) (h8 : l.length ≤ 8) (F : List Int) (hl : F.length = l.length) (hr : ∀ z ∈ F, 0 ≤ z ∧ z < (l.length : Int)) (hp : F.Pairwise (LexNum (l.map (fun x => wrap64 x.f2)))) (c : List Int) (D M : List Int) (d m x y : Int)
 (next : Ev (fun k => (spec_P6Order.f k c (l.length : Int)).bind fun t434 => (laws_FnLate.l1 k l d m (([D, M, F, t434] : List (List Int))) 0 x y)) true) (n : Nat) : ∀ i : Nat, F.length ≤ i + 1 + n → Ev (fun k => laws_FnLate.l0 k c l D d M m F ((i + 1 : Nat) : Int) x y) true := by
 induction n with
 | zero =>
  intro i hi
  exact Ev.step (fun k => by rw [laws_FnLate.l0]) (Ev.ite_f (by omega) next)
 | succ n ih =>
  intro i hi
  by_cases c1 : i + 1 < F.length
  · have a0 := hr F[i] (List.getElem_mem (by omega))
    have b0 := hr F[i + 1] (List.getElem_mem (by omega))
    have ab := (List.pairwise_iff_getElem.mp hp) i (i + 1) (by omega) c1 (by omega)
    have ea : rd F (i : Int) = F[i] := rd_of_lt F i (by omega)
    have eb : rd F ((i + 1 : Nat) : Int) = F[i + 1] := rd_of_lt F (i + 1) c1
    rw [← ea] at a0 ab
    rw [← eb] at b0 ab
    have w1 : wrap64 (((i + 1 : Nat) : Int) - 1) = (i : Int) := by rw [w64 _ (by omega) (by omega)]; omega
    have due : ∀ z : Int, 0 ≤ z → z < (l.length : Int) → rd (l.map (fun x => wrap64 x.f2)) z = (rd_T57 l z).f2 := by
     intro z z0 z1
     obtain ⟨j, rfl⟩ : ∃ j : Nat, z = (j : Int) := ⟨z.toNat, by omega⟩
     have cj : j < l.length := by omega
     rw [rd57_lt l j cj, rd_of_lt _ j (by simpa using cj), List.getElem_map]
     exact (hf _ (List.getElem_mem cj)).2.2.1
    have ab' : (rd_T57 l (rd F (i : Int))).f2 < (rd_T57 l (rd F ((i + 1 : Nat) : Int))).f2 ∨ ((rd_T57 l (rd F (i : Int))).f2 = (rd_T57 l (rd F ((i + 1 : Nat) : Int))).f2 ∧ rd F (i : Int) < rd F ((i + 1 : Nat) : Int)) := by
     unfold LexNum at ab
     rw [due _ a0.1 a0.2, due _ b0.1 b0.2] at ab
     exact ab
    have nx := ih (i + 1) (by omega)
    clear ab due hp ih next
    refine Ev.step (fun k => by rw [laws_FnLate.l0]) ?_
    rw [w1, next_w (i + 1) (by omega)]
    refine Ev.ite_t (by omega) (Ev.ite_t (by omega) (Ev.ite_t (by omega) (Ev.ite_t a0.1 (Ev.ite_t a0.2 (Ev.ite_t (by omega) (Ev.ite_t b0.1 (Ev.ite_t b0.2 ?_)))))))
    rcases ab' with h | ⟨h, g⟩
    · exact Ev.ite_f (by omega) (Ev.ite_f (by omega) nx)
    · exact Ev.ite_f (by omega) (Ev.ite_t h (Ev.ite_f (by omega) nx))
  · exact Ev.step (fun k => by rw [laws_FnLate.l0]) (Ev.ite_f (by omega) next)
theorem scoresLate (x y : Int) (l : List S57) (o : List Int) : scLate x y l o = scG 1 l o (timesOf x y l 0 0 o) := by
 unfold scG scLate
 rw [if_neg (by decide), if_pos rfl]
theorem scoresLateness (x y : Int) (l : List S57) (o : List Int) : scLateness x y l o = scG 2 l o (timesOf x y l 0 0 o) := by
 unfold scG scLateness
 rw [if_neg (by decide), if_neg (by decide), if_pos rfl]
theorem any_order {x y : Int} {l : List S57} (hx : 0 ≤ x ∧ x ≤ 60) (hy : 0 ≤ y ∧ y ≤ 60) (hf : Fine l) (h8 : l.length ≤ 8) (o : List Int) (hb : Begun l.length o) (hl : o.length = l.length) :
 ((lateUp l o (timesOf x y l 0 0 o) l.length).length : Int) = scLate x y l o ∧ 0 ≤ scLate x y l o ∧ 0 ≤ scLateness x y l o ∧ (scLate x y l o = 0 ↔ scLateness x y l o = 0) := by
 have hc : codeOrd x y l o = 0 := by
  unfold codeOrd
  rw [if_pos (code_sure x y l hx hy hf h8), if_pos ((isOrd_iff o l.length).mpr ⟨hl, hb.nodup, hb.range⟩)]
 have ht : Typed l := fun p hp => by
  have f := hf p hp
  exact ⟨⟨by omega, by omega⟩, ⟨by omega, by omega⟩, ⟨by omega, by omega⟩⟩
 have H := lates_of x y l o ht ⟨by omega, by omega⟩ ⟨by omega, by omega⟩ hc
 have z := late_zero H o.length (Nat.le_refl _)
 have b := lateSum_bd H o.length (Nat.le_refl _)
 unfold scLate scLateness
 refine ⟨?_, by omega, b.1, ?_⟩
 · rw [← late_same H, srt_len]
 · rw [← z]; omega
theorem main_ev {x y : Int} {l : List S57} {c m : List Int} (hc : Bytes c) (hI : spec_P6Iron.f c = some (x, y)) (hP : Ev (fun k => spec_P6Pieces.f k m) l) (hx : 0 ≤ x ∧ x ≤ 60) (hy : 0 ≤ y ∧ y ≤ 60) (hf : Fine l) (h5 : l.length ≤ 5) : Ev (fun k => laws_FnLate.j0 k c m false) true := by
 have ht : Typed l := fun p hp => by
  have f := hf p hp
  exact ⟨⟨by omega, by omega⟩, ⟨by omega, by omega⟩, ⟨by omega, by omega⟩⟩
 have bx : -128 ≤ x ∧ x ≤ 127 := ⟨by omega, by omega⟩
 have bY : -128 ≤ y ∧ y ≤ 127 := ⟨by omega, by omega⟩
 have code := code_sure x y l hx hy hf (by omega)
 have code0 : codeOf l = 0 := by rw [← codeIron_0]; exact code_sure 0 0 l ⟨by omega, by omega⟩ ⟨by omega, by omega⟩ hf (by omega)
 have s1 : Ev (fun k => spec_FewestLate.f k x y l) (ironRes scLate x y l) := Ev.bind (specFound_ev scLate 1 (by decide) scoresLate x y l (by omega) ht bx bY) (Ev.const rfl)
 have i1 : Ev (fun k => impl_FewestLate.f k x y l) (ironRes scLate x y l) := ironBy_ev scLate x y l ht bx bY
 have s2 : Ev (fun k => spec_LeastLateness.f k x y l) (ironRes scLateness x y l) := Ev.bind (specFound_ev scLateness 2 (by decide) scoresLateness x y l (by omega) ht bx bY) (Ev.const rfl)
 have i2 : Ev (fun k => impl_LeastLateness.f k x y l) (ironRes scLateness x y l) := ironBy_ev scLateness x y l ht bx bY
 obtain ⟨s3, i3⟩ := DueOrder_both l (by omega) ht
 have kb : ∀ p ∈ l, 0 ≤ (fun x : S57 => wrap64 x.f2) p ∧ (fun x : S57 => wrap64 x.f2) p ≤ 1000 := fun p hp => by
  have f := hf p hp
  show 0 ≤ wrap64 p.f2 ∧ wrap64 p.f2 ≤ 1000
  rw [f.2.2.1]; omega
 have e1 : ironRes scLate x y l = ((bestOf (scLate x y l) l.length).1, (bestOf (scLate x y l) l.length).2, 0) := by unfold ironRes; rw [if_pos code]
 have e2 : ironRes scLateness x y l = ((bestOf (scLateness x y l) l.length).1, (bestOf (scLateness x y l) l.length).2, 0) := by unfold ironRes; rw [if_pos code]
 have e3 : orderRes (fun x => wrap64 x.f2) l = (byLt (ltNum (l.map (fun x => wrap64 x.f2))) l.length, 0) := by unfold orderRes; rw [if_pos code0, sortKey_nums _ l kb]
 rw [e1] at s1 i1
 rw [e2] at s2 i2
 rw [e3] at s3 i3
 have any := fun o hb hl => any_order hx hy hf (show l.length ≤ 8 by omega) o hb hl
 obtain ⟨D1, D2, D3⟩ := best_pair (scLate x y l) l.length (fun o hb hl => (any o hb hl).2.1)
 obtain ⟨M1, M2, M3⟩ := best_pair (scLateness x y l) l.length (fun o hb hl => (any o hb hl).2.2.1)
 have Dm := (best_min (scLate x y l) l.length (fun o hb hl => (any o hb hl).2.1)).2
 have Mm := (best_min (scLateness x y l) l.length (fun o hb hl => (any o hb hl).2.2.1)).2
 generalize bestOf (scLate x y l) l.length = D at *
 generalize bestOf (scLateness x y l) l.length = M at *
 have Fb := byLt_begun (l.map (fun x => wrap64 x.f2)) l.length
 have Fl := byLt_len (ltNum (l.map (fun x => wrap64 x.f2))) l.length
 have Fp := byLt_lex (l.map (fun x => wrap64 x.f2)) l.length
 generalize byLt (ltNum (l.map (fun x => wrap64 x.f2))) l.length = F at *
 have zero : ((D.2 == 0) != (M.2 == 0)) = false := by
  have hD := any D.1 D1 D2
  have hM := any M.1 M1 M2
  have a1 := Mm D.1 D1 D2
  have a2 := Dm M.1 M1 M2
  have q : (D.2 = 0) ↔ (M.2 = 0) := by
   constructor
   · intro h
     have : scLateness x y l D.1 = 0 := hD.2.2.2.mp (by omega)
     omega
   · intro h
     have : scLate x y l M.1 = 0 := hM.2.2.2.mpr (by omega)
     omega
  rw [bne_eq_false_iff_eq, Bool.eq_iff_iff, beq_iff_eq, beq_iff_eq]
  exact q
 obtain ⟨O, hO, Ob, Ol⟩ := drawOrder hc l.length (by omega)
 have ord : ∀ (o : List Int) (q : Nat), Begun l.length o → o.length = l.length → q < 4 → ([D.1, M.1, F, O] : List (List Int)).getD q [] = o → Ev (fun k => laws_FnLate.l1 k l D.2 M.2 ([D.1, M.1, F, O] : List (List Int)) ((q + 1 : Nat) : Int) x y) true → Ev (fun k => laws_FnLate.l1 k l D.2 M.2 ([D.1, M.1, F, O] : List (List Int)) (q : Int) x y) true := by
  intro o q hb hl hq ho nx
  have h := any o hb hl
  refine order_ev hx hy hf (by omega) hb hl ([D.1, M.1, F, O] : List (List Int)) q hq (show 4 ≤ 8 by decide) ho D.2 M.2 ?_ (Mm o hb hl) (fun e => ?_) (fun e => ?_) nx
  · rw [h.1]; exact Dm o hb hl
  · subst e
    have e : D.1 = o := ho
    subst e
    rw [h.1, ← D3]
  · subst e
    have e : M.1 = o := ho
    subst e
    exact M3.symm
 have last : Ev (fun k => laws_FnLate.l1 k l D.2 M.2 ([D.1, M.1, F, O] : List (List Int)) ((4 : Nat) : Int) x y) true := by
  refine Ev.step (fun k => by rw [laws_FnLate.l1]) ?_
  exact Ev.ite_f (show ¬ ((4 : Int) < 4) by decide) (valid_ev l hf (by omega) l.length 0 (by omega))
 have all : Ev (fun k => laws_FnLate.l1 k l D.2 M.2 ([D.1, M.1, F, O] : List (List Int)) 0 x y) true :=
  ord D.1 0 D1 D2 (by decide) rfl (ord M.1 1 M1 M2 (by decide) rfl (ord F 2 Fb Fl (by decide) rfl (ord O 3 Ob Ol (by decide) rfl last)))
 have rise : Ev (fun k => laws_FnLate.l0 k c l D.1 D.2 M.1 M.2 F 1 x y) true := rise_ev hf (by omega) F Fl Fb.range Fp c D.1 M.1 D.2 M.2 x y (Ev.bind hO all) F.length 0 (by omega)
 refine Ev.step (fun k => by rw [laws_FnLate.j0]) (Ev.ite_f (by decide) ?_)
 refine Ev.bind (Ev.const hI) (Ev.bind hP (Ev.bind i1 (Ev.bind s1 (Ev.bind i2 (Ev.bind s2 (Ev.bind i3 (Ev.bind s3 (Ev.ite_t rfl (Ev.ite_t rfl (Ev.bind (same_ev D.1 (by omega)) (Ev.ite_t rfl (Ev.ite_t rfl (Ev.ite_t rfl (Ev.ite_t rfl (Ev.bind (same_ev M.1 (by omega)) (Ev.ite_t rfl (Ev.ite_t rfl (Ev.ite_t rfl (Ev.ite_t rfl (Ev.bind (same_ev F (by omega)) (Ev.ite_t rfl (Ev.ite_t (by rw [D2]) (Ev.ite_t (by rw [M2]) (Ev.ite_t (by rw [Fl]) ?_))))))))))))))))))))))))
 dsimp only
 rw [zero]
 exact Ev.step (fun k => by rw [laws_FnLate.j1]) (Ev.ite_f (by decide) rise)
theorem FnLate : laws_FnLate.Pure := by
 intro c m _ _ hc _ _ hm
 refine Ev.get ?_
 have hcb : Bytes c := hc
 have hmb : Bytes m := hm
 obtain ⟨x, y, hI, hx, hy⟩ := drawIron hcb
 obtain ⟨l, hP, h5, hf⟩ := drawPieces hmb
 have J : ∀ b, Ev (fun k => laws_FnLate.j0 k c m b) true := by
  intro b
  cases b with
  | true => exact Ev.step (fun k => by rw [laws_FnLate.j0]) (Ev.ite_t rfl (Ev.const rfl))
  | false => exact main_ev hcb hI hP ⟨hx.1, by omega⟩ ⟨hy.1, by omega⟩ hf h5
 have b1 : laws_f6big.f c = some (decide ((c.length : Int) > 4096)) := rfl
 have b2 : laws_f6big.f m = some (decide ((m.length : Int) > 4096)) := rfl
 refine Ev.bind (Ev.const b1) ?_
 by_cases q : decide ((c.length : Int) > 4096) = true
 · exact Ev.ite_t q (J true)
 · exact Ev.ite_f q (Ev.bind (Ev.const b2) (J _))
end Go.Proofs.Ythkccaclmodjiaa.Pure
