import Derived.Test.YthkccaclmodjiaazETwoIronsESortedV
import Derived.Test.YthkccaclmodjiaazETwoIronsEChoose
import Derived.Test.YthkccaclmodjiaazETwoIronsEListsPiece
import Derived.Test.YthkccaclmodjiaazETwoIronsI0
import Derived.Test.YthkccaclmodjiaazETwoIronsI9
import Derived.Shelf.Abstract
import Derived.RangeFuncBox
import Derived.Shelf.SlicesE.Clone
namespace Go.Proofs.Ythkccaclmodjiaa.I
open Go.RowKit Go.Proofs.YthkccaclmodjiaaW.PrintWords Go.Proofs.YthkccaclmodjiaaW.PrintLast Go.Proofs.YthkccaclmodjiaaW.PrintMore
attribute [local go_sem] max2_int min2_int max_two min_two max_three min_three max_four min_four
set_option linter.unusedVariables false
set_option linter.unusedSimpArgs false
open Go.Sort Go.Shelf Go.Lib
def afterOf (sc : List Int → Int) (n d : Nat) (l : List Int) (st : List Int × Int) (i : Nat) : List Int × Int := (List.range i).foldl (fun st (i : Nat) => if l.contains (i : Int) = true then st else searchOf sc n d (l ++ [(i : Int)]) st) st
theorem afterOf_succ (sc : List Int → Int) (n d : Nat) (l : List Int) (st : List Int × Int) (i : Nat) : afterOf sc n d l st (i + 1) = if l.contains (i : Int) = true then afterOf sc n d l st i else searchOf sc n d (l ++ [(i : Int)]) (afterOf sc n d l st i) := by
  unfold afterOf
  rw [List.range_succ, List.foldl_append]
  rfl
theorem Begun.snoc {n : Nat} {l : List Int} (h : Begun n l) (i : Nat) (hi : i < n) (hc : l.contains (i : Int) = false) : Begun n (l ++ [(i : Int)]) := by
  have hn : (i : Int) ∉ l := fun hm => by rw [List.contains_iff_mem.mpr hm] at hc; cases hc
  refine ⟨List.pairwise_append.mpr ⟨h.nodup, by simp, fun a ha b hb e => hn ?_⟩, fun x hx => ?_⟩
  · obtain rfl := List.mem_singleton.mp hb
    rw [← e]
    exact ha
  · rcases List.mem_append.mp hx with hx | hx
    · exact h.range x hx
    · obtain rfl := List.mem_singleton.mp hx
      exact ⟨by omega, by omega⟩
set_option maxHeartbeats 16000000 in
set_option maxRecDepth 100000 in
theorem choose_calls (h0 n sg : Nat) (slb : Array Value) (sc : List Int → Int) (w0 : World) (hw0 : w0.heap.size = h0) (hn8 : n ≤ 1000) (esg : ∀ args w, (callFunc sg args).run Try.prog w = .ok (.enter sg args) w) (hsc : ScoreOn sg slb sc n w0) :
    ∀ (d : Nat) (v : Value) (l : List Int) (W : World) (bv : Value) (best : List Int) (low : Int), l.length + d = n → Begun n l → Env h0 n sg slb W bv best low → Kd.R (Kd.int .i64) 2 W (h0 + 5) (fun _ => True) v l → Below h0 w0 W →
      Calls Try.prog 122 #[v, .pointer (some ⟨h0, 0, none⟩), .pointer (some ⟨h0 + 1, 0, none⟩), .pointer (some ⟨h0 + 3, 0, none⟩), .pointer (some ⟨h0 + 2, 0, none⟩), .pointer (some ⟨h0 + 4, 0, none⟩)] W fun e w' => e = .returned (.tuple #[]) ∧ ∃ bv', Env h0 n sg slb w' bv' (searchOf sc n d l (best, low)).1 (searchOf sc n d l (best, low)).2 ∧ Below h0 w0 w' ∧ Mid (h0 + 5) W w' := by
  intro d
  have HSC := Aside0.mk hsc
  have HW0 := Aside0.mk hw0
  clear hsc hw0
  induction d with
  | zero =>
    intro v l W bv best low hl hbg hE hR hB
    obtain ⟨A, c, rfl⟩ := Kd.R_slice hR
    have hcap := (Kd.R_reads' hR).2.1
    have hcl := (Kd.R_reads' hR).2.2
    have hl0 : l.length = n := by omega
    have hcall := HSC.out W A c l (by rw [HW0.out]; exact hB) hbg hl0 hcap hcl
    generalize hs : sc l = s at hcall
    have HS := Aside0.mk hs
    have HCALL := Aside0.mk hcall
    have HE := Aside0.mk hE
    have HR := Aside0.mk hR
    have HB := Aside0.mk hB
    have bn := hE.bn.cell
    have bs := hE.bs.cell
    have hlz : ((l.length : Int) == (n : Int)) = true := beq_iff_eq.mpr (by omega)
    clear hs hcall hE hR hB hcap hcl hbg hl0 hl
    have last : ∀ w1, Below W.heap.size W w1 → Below h0 w0 w1 := fun w1 h => HB.out.trans (h.mono (by have := HE.out.bc.lt; omega))
    have LAST := Aside0.mk last
    clear last
    by_cases c1 : 0 ≤ s
    · have c1b : decide (0 ≤ s) = true := decide_eq_true c1
      by_cases c2 : low < 0
      · have c2b : decide (low < 0) = true := decide_eq_true c2
        have e : searchOf sc n 0 l (best, low) = (l, s) := by
          unfold searchOf keepOne
          rw [HS.out, if_pos ⟨c1, .inl c2⟩]
        rw [e]
        go_enter Try.func122, Try.ntmps122
        go_wp2_with ((with_reducible refine HCALL.out.mono ?_); rintro e w1 ⟨rfl, hb1⟩; have HB1 := Aside0.mk hb1; have HE1 := Aside0.mk (HE.out.below hb1); clear hb1; have dl := HE1.out.bl.cell; have db := HE1.out.bb.cell; have fl := HE1.out.bl.frozen; have fb := HE1.out.bb.frozen)
        first | go_end0 | ((try simp only [Exit.inBlock, Exit.then]); refine bodyPost_ret (results_none rfl _ _ _) rfl ?_)
        exact ⟨rfl, _, HE1.out.store (Kd.R_below HR.out HB1.out) s, ((LAST.out _ HB1.out).setCell (p := ⟨h0 + 2, 0, none⟩) (by show h0 ≤ h0 + 2; omega) _).setCell (p := ⟨h0 + 3, 0, none⟩) (by show h0 ≤ h0 + 3; omega) _, ((Mid.of_below HB1.out).trans (Mid.set _ _ (by omega))).trans (Mid.set _ _ (by omega))⟩
      · have c2b : decide (low < 0) = false := decide_eq_false c2
        by_cases c3 : s < low
        · have c3b : decide (s < low) = true := decide_eq_true c3
          have e : searchOf sc n 0 l (best, low) = (l, s) := by
            unfold searchOf keepOne
            rw [HS.out, if_pos ⟨c1, .inr c3⟩]
          rw [e]
          go_enter Try.func122, Try.ntmps122
          go_wp2_with ((with_reducible refine HCALL.out.mono ?_); rintro e w1 ⟨rfl, hb1⟩; have HB1 := Aside0.mk hb1; have HE1 := Aside0.mk (HE.out.below hb1); clear hb1; have dl := HE1.out.bl.cell; have db := HE1.out.bb.cell; have fl := HE1.out.bl.frozen; have fb := HE1.out.bb.frozen)
          first | go_end0 | ((try simp only [Exit.inBlock, Exit.then]); refine bodyPost_ret (results_none rfl _ _ _) rfl ?_)
          exact ⟨rfl, _, HE1.out.store (Kd.R_below HR.out HB1.out) s, ((LAST.out _ HB1.out).setCell (p := ⟨h0 + 2, 0, none⟩) (by show h0 ≤ h0 + 2; omega) _).setCell (p := ⟨h0 + 3, 0, none⟩) (by show h0 ≤ h0 + 3; omega) _, ((Mid.of_below HB1.out).trans (Mid.set _ _ (by omega))).trans (Mid.set _ _ (by omega))⟩
        · have c3b : decide (s < low) = false := decide_eq_false c3
          have e : searchOf sc n 0 l (best, low) = (best, low) := by
            unfold searchOf keepOne
            rw [HS.out, if_neg (fun h => h.2.elim c2 c3)]
          rw [e]
          go_enter Try.func122, Try.ntmps122
          go_wp2_with ((with_reducible refine HCALL.out.mono ?_); rintro e w1 ⟨rfl, hb1⟩; have HB1 := Aside0.mk hb1; have HE1 := Aside0.mk (HE.out.below hb1); clear hb1; have dl := HE1.out.bl.cell; have db := HE1.out.bb.cell; have fl := HE1.out.bl.frozen; have fb := HE1.out.bb.frozen)
          first | go_end0 | ((try simp only [Exit.inBlock, Exit.then]); refine bodyPost_ret (results_none rfl _ _ _) rfl ?_)
          exact ⟨rfl, _, HE1.out, LAST.out _ HB1.out, Mid.of_below HB1.out⟩
    · have c1b : decide (0 ≤ s) = false := decide_eq_false c1
      have e : searchOf sc n 0 l (best, low) = (best, low) := by
        unfold searchOf keepOne
        rw [HS.out, if_neg (fun h => c1 h.1)]
      rw [e]
      go_enter Try.func122, Try.ntmps122
      go_wp2_with ((with_reducible refine HCALL.out.mono ?_); rintro e w1 ⟨rfl, hb1⟩; have HB1 := Aside0.mk hb1; have HE1 := Aside0.mk (HE.out.below hb1); clear hb1; have dl := HE1.out.bl.cell; have db := HE1.out.bb.cell; have fl := HE1.out.bl.frozen; have fb := HE1.out.bb.frozen)
      first | go_end0 | ((try simp only [Exit.inBlock, Exit.then]); refine bodyPost_ret (results_none rfl _ _ _) rfl ?_)
      exact ⟨rfl, _, HE1.out, LAST.out _ HB1.out, Mid.of_below HB1.out⟩
  | succ d ih =>
    intro v l W bv best low hl hbg hE hR hB
    obtain ⟨A, c, rfl⟩ := Kd.R_slice hR
    have hlz : ((l.length : Int) == (n : Int)) = false := beq_eq_false_iff_ne.mpr (by omega)
    have bn := hE.bn.cell
    have IH := Aside0.mk ih
    have HE := Aside0.mk hE
    have HR := Aside0.mk hR
    have HB := Aside0.mk hB
    have HL := Aside0.mk hl
    have HL1 := Aside0.mk (show l.length ≤ 1048576 by omega)
    have HBG := Aside0.mk hbg
    have HCP := Aside0.mk (Kd.R_reads' hR).2.1
    clear hl hbg hE hR hB ih
    rw [show searchOf sc n (d + 1) l (best, low) = afterOf sc n d l (best, low) n from rfl]
    go_enter Try.func122, Try.ntmps122
    go_wp2
    go_loopg [30] n (fun gg v30 wr => ∃ (kk : Nat) (bv1 : Value), kk ≤ n ∧ n - kk ≤ gg ∧ v30 = .int .i64 kk ∧ Aside0 (Env h0 n sg slb wr bv1 (afterOf sc n d l (best, low) kk).1 (afterOf sc n d l (best, low) kk).2) ∧ Aside0 (Below h0 w0 wr) ∧ Aside0 (Mid (h0 + 5) W wr))
    case atStart => exact ⟨0, bv, Nat.zero_le _, by omega, rfl, HE, HB, ⟨Mid.refl _ _⟩⟩
    case round =>
      clear bn HB HE
      obtain ⟨kk, bv1, hkk, hg, rfl, E1, B1, M1⟩ := hrel
      have R1 := Aside0.mk (R_mid HR.out M1.out)
      clear HR
      by_cases hlt : kk < n
      · have hltz : (kk : Int) < (n : Int) := by omega
        obtain ⟨kc, hkc⟩ := Ev.get (contains_ev l (kk : Int) (by have := HL1.out; omega))
        have CON := Aside0.mk (slices_Contains_int64_int64.calls kc A c l (kk : Int) (l.contains (kk : Int)) wr (Kd.R_reads' R1.out).2.2 HCP.out hkc)
        clear hkc
        cases hcq : l.contains (kk : Int) with
        | true =>
          rw [hcq] at CON
          have HCQ := Aside0.mk hcq
          clear hcq
          go_wp2_with (go_at_call 78; refine CON.out.mono ?_; rintro e w2 ⟨rfl, hd⟩; have hb2 : Below wr.heap.size wr w2 := (by first | exact hd | exact hd.below); clear hd; have E2 := Aside0.mk (E1.out.below hb2); have B2 := Aside0.mk (B1.out.trans (hb2.mono (by have := E1.out.bc.lt; omega))); have M2 := Aside0.mk (M1.out.trans (Mid.of_below hb2)); clear hb2)
          go_roundg (n - (kk + 1))
          case measure => omega
          case rel => exact ⟨kk + 1, bv1, by omega, by omega, by go_num, ⟨by rw [afterOf_succ, if_pos HCQ.out]; exact E2.out⟩, B2, M2⟩
        | false =>
          rw [hcq] at CON
          have HCQ := Aside0.mk hcq
          clear hcq
          go_wp2_with (go_at_call 78; refine CON.out.mono ?_; rintro e w2 ⟨rfl, hd⟩; have hb2 : Below wr.heap.size wr w2 := (by first | exact hd | exact hd.below); clear hd; have hb3 := below_drew1 hb2; have E3 := Aside0.mk (E1.out.below hb3); have B3 := Aside0.mk (B1.out.trans (hb3.mono (by have := E1.out.bc.lt; omega))); have M3 := Aside0.mk (M1.out.trans (Mid.of_below hb3)); have R3 := Aside0.mk (Kd.R_below R1.out hb3); clear hb2 hb3)
          have hcq := HCQ.out
          refine start_ (n := 7) (S := fun w' => w'.cell? ⟨h0 + 4, 0, none⟩ = some (.func (.func 122) #[] (cbOf h0))) (ds := [6]) #[false, false, false, false, false, false, false] (by kernel_rfl) rfl rfl (E3.out.bc.cell) (fun hHeld => ?_)
          generalize w2.drew = w13 at E3 B3 M3 R3 hHeld ⊢
          have HB := Aside0.mk (Below.refl w13.heap.size w13)
          have HS13 := Aside0.mk (show ∀ w', Below w13.heap.size w13 w' → w'.cell? ⟨h0 + 4, 0, none⟩ = some (.func (.func 122) #[] (cbOf h0)) from fun w' hb => (E3.out.below hb).bc.cell)
          have HRB : ∀ w', Below w13.heap.size w13 w' → Kd.R (Kd.int .i64) 2 w' (h0 + 5) (fun _ => True) (.slice A l.length c) l := fun w' hb => Kd.R_below R3.out hb
          refine take_ (i := 0) (N := some 37) (v := ?_) (a' := ?_) #[true, false, false, false, false, false, false] rfl rfl (by kernel_rfl) (fun _ _ _ h => h) (Or.inl ⟨by rfl, ?_⟩) hHeld ?_ ?_
          rotate_left
          · intro w' s0
            go_simp
            with_reducible rfl
          rotate_left
          · simp only [Act.put, List.setIfInBounds_toArray, List.set_cons_zero, List.set_cons_succ, i64_w, i32_w]
            rfl
          refine pure_ (i := 1) (N := some 38) (v := ?_) (a' := ?_) #[true, true, false, false, false, false, false] rfl rfl (by kernel_rfl) (fun _ _ _ h => h) (Or.inl ⟨by rfl, ?_⟩) ?_ ?_
          rotate_left
          · intro w'
            go_simp
            with_reducible rfl
          rotate_left
          · simp only [Act.put, List.setIfInBounds_toArray, List.set_cons_zero, List.set_cons_succ, i64_w, i32_w]
            rfl
          refine pure_ (i := 3) (N := some 40) (v := ?_) (a' := ?_) #[true, true, false, true, false, false, false] rfl rfl (by kernel_rfl) (fun _ _ _ h => h) (Or.inl ⟨by rfl, ?_⟩) ?_ ?_
          rotate_left
          · intro w'
            go_simp
            with_reducible rfl
          rotate_left
          · simp only [Act.put, List.setIfInBounds_toArray, List.set_cons_zero, List.set_cons_succ, i64_w, i32_w]
            rfl
          refine join_ (σ := Value × Value) 2 #[true, true, true, true, true, false, false] (fun s_ => [(39, s_.1), (41, s_.2)]) (fun s_ w' => (Kd.R (Kd.int .i64) 2 w' w13.heap.size (fun k_ => some k_ ≠ (s_.2 : Value).ownBlock) s_.1 l) ∧ (Kd.R (Kd.int .i64) 2 w' w13.heap.size (fun k_ => some k_ ≠ (s_.1 : Value).ownBlock) s_.2 [(kk : Int)]) ∧ (Below w13.heap.size w13 w')) ?_ ?_
          rotate_left
          · intro hCont
            refine two_ (i := 2) (j := 4) (Ni := some 39) (Nj := some 41) #[true, true, true, true, false, false, false] #[true, true, false, true, true, false, false] rfl rfl rfl rfl (by kernel_rfl) (by decide) (by decide) (fun K hK => ?_) (fun K hK => ?_)
            · skip
              refine goes_ Try.func123 (by kernel_rfl) rfl #[.slice A l.length c] (by rfl) rfl rfl (by (try simp only [List.map_toArray, List.map_cons, List.map_nil]); first | done | rfl | (simp only [List.length_drop, List.length_take]; rfl)) ?_
              refine (cloneOf (.slice A l.length c) l (h0 + 5) (fun _ => True) _ (HRB _ (by repeat (first | (with_reducible first | exact HB.out | apply below_alloc | apply pw_below_drewN | apply below_drew1) | exact HB.out))) HL1.out).mono ?_
              rintro e w14 ⟨v204, rfl, ho0, hb⟩
              refine ⟨_, rfl, ?_⟩
              have n0_ := Aside0.mk (Kd.R_lower ho0 (below_size (by repeat (first | (with_reducible first | exact HB.out | apply below_alloc | apply pw_below_drewN | apply below_drew1) | exact HB.out))))
              have n1_ := Aside0.mk (below_step (by repeat (first | (with_reducible first | exact HB.out | apply below_alloc | apply pw_below_drewN | apply below_drew1) | exact HB.out)) hb)
              clear HB
              have HO205 := n0_
              have HB := n1_
              clear n0_ n1_
              clear hb ho0
              refine hK.out _ _ (HS13.out _ HB.out) (fun hHeld => ?_)
              clear hK K
              refine norm_ (a' := ?_) ?_ ?_
              rotate_left
              · show Act.put _ (some 39) _ = _
                simp only [Act.put, List.setIfInBounds_toArray, List.set_cons_zero, List.set_cons_succ, i64_w, i32_w]
                rfl
              refine one_ (i := 4) (N := some 41) #[true, true, true, true, true, false, false] rfl rfl (by kernel_rfl) (by decide) (fun K hK => ?_)
              refine Kd.R_lit_step (Kd.int .i64) _ 2 ?hg (N := 41) ?hd (xs := ([(kk : Int)] : List Int)) (inner := [.int .i64 (kk : Int)]) (ok := fun _ => True) (okp := fun _ => True) ?hr ?hp (fun _ hk => hk) trivial (Below.refl _ _) (Nat.le_refl _) (by simp) ?_; (case hd => rfl); (case hg => rfl); (case hr => first | (go_simp; done) | (go_simp; rfl)); (case hp => exact (Reps.one (show Kd.M (Kd.int .i64) _ _ _ (kk : Int) [.int .i64 (kk : Int)] from rfl) (Reps.none _ _)))
              intro v207 w15 ho16 hb hg_ hnew_
              clear hg_ hnew_
              have n0_ := Aside0.mk (Kd.R_elder' (by (with_reducible repeat (first | apply Kd.R_alloc | apply Kd.R_drewN | apply Kd.R_drew)); exact HO205.out) (Kd.R_base ho16) hb)
              have n1_ := Aside0.mk (Kd.R_lower (Kd.R_new' ho16 (Kd.R_lt (by (with_reducible repeat (first | apply Kd.R_alloc | apply Kd.R_drewN | apply Kd.R_drew)); exact HO205.out))) (below_size (by repeat (first | (with_reducible first | exact HB.out | apply below_alloc | apply pw_below_drewN | apply below_drew1) | exact HB.out))))
              have n2_ := Aside0.mk (below_step (by repeat (first | (with_reducible first | exact HB.out | apply below_alloc | apply pw_below_drewN | apply below_drew1) | exact HB.out)) hb)
              clear HO205
              clear HB
              have HO205 := n0_
              have HO208 := n1_
              have HB := n2_
              clear n0_ n1_ n2_
              clear hb ho16
              refine hK.out _ _ (HS13.out _ HB.out) (fun hHeld => ?_)
              clear hK K
              refine norm_ (a' := ?_) ?_ ?_
              rotate_left
              · show Act.put _ (some 41) _ = _
                simp only [Act.put, List.setIfInBounds_toArray, List.set_cons_zero, List.set_cons_succ, i64_w, i32_w]
                rfl
              exact norm_ (by simp only [putAll, Act.put, List.setIfInBounds_toArray, List.set_cons_zero, List.set_cons_succ]) (hCont (v204, v207) _ ⟨(by (with_reducible repeat (first | apply Kd.R_alloc | apply Kd.R_drewN | apply Kd.R_drew)); exact Kd.R_mono HO205.out (fun _ hk => hk.2)), (by (with_reducible repeat (first | apply Kd.R_alloc | apply Kd.R_drewN | apply Kd.R_drew)); exact Kd.R_mono HO208.out (fun _ hk => hk.2)), (by repeat (first | (with_reducible first | exact HB.out | apply below_alloc | apply pw_below_drewN | apply below_drew1) | exact HB.out))⟩)
            · skip
              refine Kd.R_lit_step (Kd.int .i64) _ 2 ?hg (N := 41) ?hd (xs := ([(kk : Int)] : List Int)) (inner := [.int .i64 (kk : Int)]) (ok := fun _ => True) (okp := fun _ => True) ?hr ?hp (fun _ hk => hk) trivial (Below.refl _ _) (Nat.le_refl _) (by simp) ?_; (case hd => rfl); (case hg => rfl); (case hr => first | (go_simp; done) | (go_simp; rfl)); (case hp => exact (Reps.one (show Kd.M (Kd.int .i64) _ _ _ (kk : Int) [.int .i64 (kk : Int)] from rfl) (Reps.none _ _)))
              intro v207 w14 ho15 hb hg_ hnew_
              clear hg_ hnew_
              have n0_ := Aside0.mk (Kd.R_lower ho15 (below_size (by repeat (first | (with_reducible first | exact HB.out | apply below_alloc | apply pw_below_drewN | apply below_drew1) | exact HB.out))))
              have n1_ := Aside0.mk (below_step (by repeat (first | (with_reducible first | exact HB.out | apply below_alloc | apply pw_below_drewN | apply below_drew1) | exact HB.out)) hb)
              clear HB
              have HO208 := n0_
              have HB := n1_
              clear n0_ n1_
              clear hb ho15
              refine hK.out _ _ (HS13.out _ HB.out) (fun hHeld => ?_)
              clear hK K
              refine norm_ (a' := ?_) ?_ ?_
              rotate_left
              · show Act.put _ (some 41) _ = _
                simp only [Act.put, List.setIfInBounds_toArray, List.set_cons_zero, List.set_cons_succ, i64_w, i32_w]
                rfl
              refine one_ (i := 2) (N := some 39) #[true, true, true, true, true, false, false] rfl rfl (by kernel_rfl) (by decide) (fun K hK => ?_)
              refine goes_ Try.func123 (by kernel_rfl) rfl #[.slice A l.length c] (by rfl) rfl rfl (by (try simp only [List.map_toArray, List.map_cons, List.map_nil]); first | done | rfl | (simp only [List.length_drop, List.length_take]; rfl)) ?_
              refine (cloneOf (.slice A l.length c) l (h0 + 5) (fun _ => True) _ (HRB _ (by repeat (first | (with_reducible first | exact HB.out | apply below_alloc | apply pw_below_drewN | apply below_drew1) | exact HB.out))) HL1.out).mono ?_
              rintro e w16 ⟨v204, rfl, ho0, hb⟩
              refine ⟨_, rfl, ?_⟩
              have n0_ := Aside0.mk (Kd.R_elder' (by (with_reducible repeat (first | apply Kd.R_alloc | apply Kd.R_drewN | apply Kd.R_drew)); exact HO208.out) (Kd.R_base ho0) hb)
              have n1_ := Aside0.mk (Kd.R_lower (Kd.R_new' ho0 (Kd.R_lt (by (with_reducible repeat (first | apply Kd.R_alloc | apply Kd.R_drewN | apply Kd.R_drew)); exact HO208.out))) (below_size (by repeat (first | (with_reducible first | exact HB.out | apply below_alloc | apply pw_below_drewN | apply below_drew1) | exact HB.out))))
              have n2_ := Aside0.mk (below_step (by repeat (first | (with_reducible first | exact HB.out | apply below_alloc | apply pw_below_drewN | apply below_drew1) | exact HB.out)) hb)
              clear HO208
              clear HB
              have HO208 := n0_
              have HO205 := n1_
              have HB := n2_
              clear n0_ n1_ n2_
              clear hb ho0
              refine hK.out _ _ (HS13.out _ HB.out) (fun hHeld => ?_)
              clear hK K
              refine norm_ (a' := ?_) ?_ ?_
              rotate_left
              · show Act.put _ (some 39) _ = _
                simp only [Act.put, List.setIfInBounds_toArray, List.set_cons_zero, List.set_cons_succ, i64_w, i32_w]
                rfl
              exact norm_ (by simp only [putAll, Act.put, List.setIfInBounds_toArray, List.set_cons_zero, List.set_cons_succ]) (hCont (v204, v207) _ ⟨(by (with_reducible repeat (first | apply Kd.R_alloc | apply Kd.R_drewN | apply Kd.R_drew)); exact Kd.R_mono HO205.out (fun _ hk => hk.2)), (by (with_reducible repeat (first | apply Kd.R_alloc | apply Kd.R_drewN | apply Kd.R_drew)); exact Kd.R_mono HO208.out (fun _ hk => hk.2)), (by repeat (first | (with_reducible first | exact HB.out | apply below_alloc | apply pw_below_drewN | apply below_drew1) | exact HB.out))⟩)
          rintro ⟨v204, v207⟩ w17 ⟨h0_, h1_, h2_⟩
          clear HB
          have HO205 := Aside0.mk h0_
          have HO208 := Aside0.mk h1_
          have HB := Aside0.mk h2_
          clear h0_ h1_ h2_
          have hHeld := trivial
          obtain ⟨Ao19, co19, eo19⟩ := Kd.R_slice HO208.out
          (first | subst eo19 | (injection eo19 with f1_ f2_ f3_; have f4_ := f1_.symm; have f5_ := f3_.symm; clear f1_ f2_ f3_; subst f4_; subst f5_))
          refine norm_ (a' := ?_) ?_ ?_
          rotate_left
          · simp only [putAll, Act.put, List.setIfInBounds_toArray, List.set_cons_zero, List.set_cons_succ]
            rfl
          refine one_ (i := 5) (N := some 42) #[true, true, true, true, true, true, false] rfl rfl (by kernel_rfl) (by decide) (fun K hK => ?_)
          refine Kd.R_append_rows_step (Kd.int .i64) (w0 := w13) w13.heap.size (by rfl) (.tmp 39) (.tmp 41) 37 2 (.int .i64 0) 8 rfl Try.underlying37 info2 rfl (by decide) (by omega) v204 l [(kk : Int)] _ _ _ (fun k_ => some k_ ≠ (.slice Ao19 [(kk : Int)].length co19 : Value).ownBlock) (fun _ => False) rfl rfl ?aO ?aR (fun _ _ h => h) (fun _ h => h.elim) ?aF ?aB ?aS ?aL ?_
          (case aR => repeat (first | exact (Kd.R_reads' HO208.out).2.2 | (with_reducible refine Kd.C_alloc ?_ _) | (with_reducible refine Kd.C_drewN ?_ _) | (with_reducible refine Kd.C_drew ?_)))
          (case aB => exact (by repeat (first | (with_reducible first | exact HB.out | apply below_alloc | apply pw_below_drewN | apply below_drew1) | exact HB.out)))
          (case aF => exact (fun k_ hk => Kd.fresh' (Kd.R_lt (by (with_reducible repeat (first | apply Kd.R_alloc | apply Kd.R_drewN | apply Kd.R_drew)); exact HO208.out)) k_ hk))
          (case aO => exact (by (with_reducible repeat (first | apply Kd.R_alloc | apply Kd.R_drewN | apply Kd.R_drew)); exact HO205.out))
          (case aS => exact (below_size (by repeat (first | (with_reducible first | exact HB.out | apply below_alloc | apply pw_below_drewN | apply below_drew1) | exact HB.out))))
          (case aL => have := HL1.out; simp only [List.length_singleton]; omega)
          intro v210 w18 ho hb hg hat
          clear HB HO205 HO208
          have HB := Aside0.mk hb
          have HO211 := Aside0.mk (Kd.R_mono ho (fun _ _ => trivial) : Kd.R (Kd.int .i64) 2 w18 w13.heap.size (fun _ => True) v210 (l ++ [(kk : Int)]))
          clear ho hb hg hat
          obtain ⟨Ao20, co20, eo20⟩ := Kd.R_slice HO211.out
          (first | subst eo20 | (injection eo20 with f1_ f2_ f3_; have f4_ := f1_.symm; have f5_ := f3_.symm; clear f1_ f2_ f3_; subst f4_; subst f5_))
          refine hK.out _ _ (HS13.out _ HB.out) (fun hHeld => ?_)
          clear hK K
          refine norm_ (a' := ?_) ?_ ?_
          rotate_left
          · show Act.put _ (some 42) _ = _
            simp only [Act.put, List.setIfInBounds_toArray, List.set_cons_zero, List.set_cons_succ, i64_w, i32_w]
            rfl
          refine last_ (i := 6) (N := some 43) #[true, true, true, true, true, true, true] rfl rfl (by kernel_rfl) (by decide) (fun K hK => ?_)
          refine goesV_ (f := 122) (lb := cbOf h0) Try.func122 (by kernel_rfl) rfl #[.slice Ao20 (l ++ [(kk : Int)]).length co20, .pointer (some ⟨h0, 0, none⟩), .pointer (some ⟨h0 + 1, 0, none⟩), .pointer (some ⟨h0 + 3, 0, none⟩), .pointer (some ⟨h0 + 2, 0, none⟩), .pointer (some ⟨h0 + 4, 0, none⟩)] (by rfl) rfl rfl (by rfl) (by simp only [List.map_toArray, List.map_cons, List.map_nil]; rfl) ?_
          refine (IH.out (.slice Ao20 (l ++ [(kk : Int)]).length co20) (l ++ [(kk : Int)]) w18 bv1 (afterOf sc n d l (best, low) kk).1 (afterOf sc n d l (best, low) kk).2 (by have := HL.out; rw [List.length_append, List.length_singleton]; omega) (HBG.out.snoc kk hlt hcq) (E3.out.below HB.out) (Kd.R_lower HO211.out (by have := E3.out.bc.lt; omega)) (B3.out.trans (HB.out.mono (by have := E3.out.bc.lt; omega)))).mono ?_
          rintro e w19 ⟨rfl, bv2, hE2, hB2, hM2⟩
          refine ⟨_, rfl, ?_⟩
          refine hK.out _ _ ?_
          clear hK K
          have EE := Aside0.mk hE2
          have BB := Aside0.mk hB2
          have MM := Aside0.mk ((M3.out.trans (Mid.of_below HB.out)).trans hM2)
          clear hE2 hB2 hM2
          refine norm_ (a' := ?_) ?_ ?_
          rotate_left
          · show Act.put _ (some 43) _ = _
            simp only [Act.put, List.setIfInBounds_toArray, List.set_cons_zero, List.set_cons_succ, i64_w, i32_w]
            rfl
          refine done_ (by kernel_rfl) ?_
          try go_wp2
          go_roundg (n - (kk + 1))
          case measure => omega
          case rel => exact ⟨kk + 1, bv2, by omega, by omega, by go_num, ⟨by rw [afterOf_succ, if_neg (by rw [hcq]; decide)]; exact EE.out⟩, BB, MM⟩
      · have hltz : ¬ (kk : Int) < (n : Int) := by omega
        obtain rfl : kk = n := by omega
        go_wp2
        first | go_end0 | ((try simp only [Exit.inBlock, Exit.then]); refine bodyPost_ret (results_none rfl _ _ _) rfl ?_)
        first | exact ⟨rfl, bv1, E1.out, B1.out, M1.out⟩ | exact ⟨rfl, ⟨bv1, E1.out⟩, B1.out, M1.out⟩
end Go.Proofs.Ythkccaclmodjiaa.I
