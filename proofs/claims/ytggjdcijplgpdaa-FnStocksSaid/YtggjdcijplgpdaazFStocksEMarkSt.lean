import Derived.Test.YtggjdcijplgpdaazFStocksEPutB
import Derived.Test.YtggjdcijplgpdaazFStocksEDAll
import Derived.Test.YtggjdcijplgpdaazFStocksEInH
import Derived.Test.YtggjdcijplgpdaazFStocksEDayOf
import Derived.Test.YtggjdcijplgpdaazFStocksECloneSt
import Derived.Shelf.Abstract
import Derived.Deep.QuietTactic
import Derived.BigQuiet
section
namespace Go.Proofs.Ytggjdcijplgpdaa.H
open Go.RowKit Go.Proofs.YtggjdcijplgpdaaW.PrintWords Go.Proofs.YtggjdcijplgpdaaW.PrintLast Go.Proofs.YtggjdcijplgpdaaW.PrintMore
attribute [local go_sem] max2_int min2_int max_two min_two max_three min_three max_four min_four
set_option linter.unusedVariables false
set_option linter.unusedSimpArgs false
set_option maxHeartbeats 8000000 in
set_option maxRecDepth 100000 in
theorem l05Own_walk (W : World) (g : Nat) (A0 : Option Addr) (c0 : Nat) (l0 : List S55) (a1 a2 a3 : Int) (hs : W.heap[g]? = some (.cells #[.slice A0 l0.length c0, .int .i16 a1, .int .i8 a2, .int .i16 a3] 32 (0, 0))) (hr : Kd.C k55 W A0 l0.length l0) (hl : l0.length ≤ 4) :
 Calls Try.prog 58 #[.pointer (some ⟨g, 0, none⟩)] W fun e w' => ∃ v0 : Value, e = .returned (.agg #[v0, .int .i16 a1, .int .i8 a2, .int .i16 a3]) ∧ Kd.R k55 55 w' W.heap.size (fun _ => True) v0 l0 ∧ Below W.heap.size W w' := by
 have hu32 := Try.underlying32
 have mixed : Try.prog.follows .mixedOrders = true := by kernel_rfl
 have HR := Aside0.mk hr
 have H4 := Aside0.mk hl
 have BH := Aside0.mk hs
 clear hs hr hl
 go_enter Try.func58, Try.ntmps58
 go_wp2_with (first | ((with_reducible refine gate_dst (N := 2) rfl ?_); refine box_event ?hg (N := 2) ?hd (cs := #[.slice none 0 0, .int .i16 0, .int .i8 0, .int .i16 0]) (t := 32) ?hr ?_; (case hd => rfl); (case hg => rfl); (case hr => first | (go_simp; done) | (go_simp; rfl)); intro gr hg_ w1 hbox hb; have GR := Aside0.mk (by rw [hg_]; exact Nat.le_refl _ : W.heap.size ≤ gr); have BR := Aside0.mk hbox; have HB := Aside0.mk hb; have n_ := Aside0.mk (blk_below BH.out hb); clear BH hb hbox hg_; have BH := n_; clear n_; have q0 : w1.cell? ⟨g, 0, none⟩ = some (.slice A0 l0.length c0) := (blk_cell BH.out 0).trans rfl; have q1 : w1.cell? ⟨g, 1, none⟩ = some (.int .i16 a1) := (blk_cell BH.out 1).trans rfl; have q2 : w1.cell? ⟨g, 2, none⟩ = some (.int .i8 a2) := (blk_cell BH.out 2).trans rfl; have q3 : w1.cell? ⟨g, 3, none⟩ = some (.int .i16 a3) := (blk_cell BH.out 3).trans rfl))
 refine start_ (n := 20) (S := fun w' => w'.cell? ⟨g, 0, none⟩ = some (.slice A0 l0.length c0) ∧ w'.cell? ⟨g, 1, none⟩ = some (.int .i16 a1) ∧ w'.cell? ⟨g, 2, none⟩ = some (.int .i8 a2) ∧ w'.cell? ⟨g, 3, none⟩ = some (.int .i16 a3)) (ds := [19]) #[false, false, false, false, false, false, false, false, false, false, false, false, false, false, false, false, false, false, false, false] (by kernel_rfl) rfl rfl ⟨q0, q1, q2, q3⟩ (fun hHeld => ?_)
 have HB2 := Aside0.mk (below_drew1 HB.out)
 have BH2 := Aside0.mk (blk_drew BH.out)
 have BR2 := Aside0.mk (blk_drew BR.out)
 clear HB BH BR q0 q1 q2 q3
 generalize w1.drew = wd at HB2 BH2 BR2 hHeld ⊢
 have HB := HB2
 have BH := BH2
 have BR := BR2
 clear HB2 BH2 BR2
 have q0 : wd.cell? ⟨g, 0, none⟩ = some (.slice A0 l0.length c0) := (blk_cell BH.out 0).trans rfl
 have q1 : wd.cell? ⟨g, 1, none⟩ = some (.int .i16 a1) := (blk_cell BH.out 1).trans rfl
 have q2 : wd.cell? ⟨g, 2, none⟩ = some (.int .i8 a2) := (blk_cell BH.out 2).trans rfl
 have q3 : wd.cell? ⟨g, 3, none⟩ = some (.int .i16 a3) := (blk_cell BH.out 3).trans rfl
 refine pure_ (i := 1) (N := some 4) (v := ?_) (a' := ?_) #[false, true, false, false, false, false, false, false, false, false, false, false, false, false, false, false, false, false, false, false] rfl rfl (by kernel_rfl) (fun _ _ _ h => h) (Or.inl ⟨by rfl, ?_⟩) ?_ ?_
 rotate_left
 · intro w'
   go_simp
   with_reducible rfl
 rotate_left
 · exact putB
 refine pure_ (i := 2) (N := some 5) (v := ?_) (a' := ?_) #[false, true, true, false, false, false, false, false, false, false, false, false, false, false, false, false, false, false, false, false] rfl rfl (by kernel_rfl) (fun _ _ _ h => h) (Or.inl ⟨by rfl, ?_⟩) ?_ ?_
 rotate_left
 · intro w'
   go_simp
   with_reducible rfl
 rotate_left
 · exact putB
 refine pure_ (i := 3) (N := some 6) (v := ?_) (a' := ?_) #[false, true, true, true, false, false, false, false, false, false, false, false, false, false, false, false, false, false, false, false] rfl rfl (by kernel_rfl) (fun _ _ _ h => h) (Or.inl ⟨by rfl, ?_⟩) ?_ ?_
 rotate_left
 · intro w'
   go_simp
   with_reducible rfl
 rotate_left
 · exact putB
 refine pure_ (i := 6) (N := some 9) (v := ?_) (a' := ?_) #[false, true, true, true, false, false, true, false, false, false, false, false, false, false, false, false, false, false, false, false] rfl rfl (by kernel_rfl) (fun _ _ _ h => h) (Or.inl ⟨by rfl, ?_⟩) ?_ ?_
 rotate_left
 · intro w'
   go_simp
   with_reducible rfl
 rotate_left
 · exact putB
 refine pure_ (i := 7) (N := some 10) (v := ?_) (a' := ?_) #[false, true, true, true, false, false, true, true, false, false, false, false, false, false, false, false, false, false, false, false] rfl rfl (by kernel_rfl) (fun _ _ _ h => h) (Or.inl ⟨by rfl, ?_⟩) ?_ ?_
 rotate_left
 · intro w'
   go_simp
   with_reducible rfl
 rotate_left
 · exact putB
 refine pure_ (i := 8) (N := some 11) (v := ?_) (a' := ?_) #[false, true, true, true, false, false, true, true, true, false, false, false, false, false, false, false, false, false, false, false] rfl rfl (by kernel_rfl) (fun _ _ _ h => h) (Or.inl ⟨by rfl, ?_⟩) ?_ ?_
 rotate_left
 · intro w'
   go_simp
   with_reducible rfl
 rotate_left
 · exact putB
 refine pure_ (i := 10) (N := some 13) (v := ?_) (a' := ?_) #[false, true, true, true, false, false, true, true, true, false, true, false, false, false, false, false, false, false, false, false] rfl rfl (by kernel_rfl) (fun _ _ _ h => h) (Or.inl ⟨by rfl, ?_⟩) ?_ ?_
 rotate_left
 · intro w'
   go_simp
   with_reducible rfl
 rotate_left
 · exact putB
 refine pure_ (i := 11) (N := some 14) (v := ?_) (a' := ?_) #[false, true, true, true, false, false, true, true, true, false, true, true, false, false, false, false, false, false, false, false] rfl rfl (by kernel_rfl) (fun _ _ _ h => h) (Or.inl ⟨by rfl, ?_⟩) ?_ ?_
 rotate_left
 · intro w'
   go_simp
   with_reducible rfl
 rotate_left
 · exact putB
 refine pure_ (i := 12) (N := some 15) (v := ?_) (a' := ?_) #[false, true, true, true, false, false, true, true, true, false, true, true, true, false, false, false, false, false, false, false] rfl rfl (by kernel_rfl) (fun _ _ _ h => h) (Or.inl ⟨by rfl, ?_⟩) ?_ ?_
 rotate_left
 · intro w'
   go_simp
   with_reducible rfl
 rotate_left
 · exact putB
 refine pure_ (i := 14) (N := some 17) (v := ?_) (a' := ?_) #[false, true, true, true, false, false, true, true, true, false, true, true, true, false, true, false, false, false, false, false] rfl rfl (by kernel_rfl) (fun _ _ _ h => h) (Or.inl ⟨by rfl, ?_⟩) ?_ ?_
 rotate_left
 · intro w'
   go_simp
   with_reducible rfl
 rotate_left
 · exact putB
 refine pure_ (i := 15) (N := some 18) (v := ?_) (a' := ?_) #[false, true, true, true, false, false, true, true, true, false, true, true, true, false, true, true, false, false, false, false] rfl rfl (by kernel_rfl) (fun _ _ _ h => h) (Or.inl ⟨by rfl, ?_⟩) ?_ ?_
 rotate_left
 · intro w'
   go_simp
   with_reducible rfl
 rotate_left
 · exact putB
 refine pure_ (i := 16) (N := some 19) (v := ?_) (a' := ?_) #[false, true, true, true, false, false, true, true, true, false, true, true, true, false, true, true, true, false, false, false] rfl rfl (by kernel_rfl) (fun _ _ _ h => h) (Or.inl ⟨by rfl, ?_⟩) ?_ ?_
 rotate_left
 · intro w'
   go_simp
   with_reducible rfl
 rotate_left
 · exact putB
 refine take_ (i := 4) (N := some 7) (v := ?_) (a' := ?_) #[false, true, true, true, true, false, true, true, true, false, true, true, true, false, true, true, true, false, false, false] rfl rfl (by kernel_rfl) (fun _ _ _ h => h) (Or.inl ⟨by rfl, ?_⟩) hHeld ?_ ?_
 rotate_left
 · rintro w' ⟨s0, s1, s2, s3⟩
   go_simp
   with_reducible rfl
 rotate_left
 · exact putB
 refine take_ (i := 9) (N := some 12) (v := ?_) (a' := ?_) #[false, true, true, true, true, false, true, true, true, true, true, true, true, false, true, true, true, false, false, false] rfl rfl (by kernel_rfl) (fun _ _ _ h => h) (Or.inl ⟨by rfl, ?_⟩) hHeld ?_ ?_
 rotate_left
 · rintro w' ⟨s0, s1, s2, s3⟩
   go_simp
   with_reducible rfl
 rotate_left
 · exact putB
 refine take_ (i := 13) (N := some 16) (v := ?_) (a' := ?_) #[false, true, true, true, true, false, true, true, true, true, true, true, true, true, true, true, true, false, false, false] rfl rfl (by kernel_rfl) (fun _ _ _ h => h) (Or.inl ⟨by rfl, ?_⟩) hHeld ?_ ?_
 rotate_left
 · rintro w' ⟨s0, s1, s2, s3⟩
   go_simp
   with_reducible rfl
 rotate_left
 · exact putB
 refine take_ (i := 17) (N := some 20) (v := ?_) (a' := ?_) #[false, true, true, true, true, false, true, true, true, true, true, true, true, true, true, true, true, true, false, false] rfl rfl (by kernel_rfl) (fun _ _ _ h => h) (Or.inl ⟨by rfl, ?_⟩) hHeld ?_ ?_
 rotate_left
 · rintro w' ⟨s0, s1, s2, s3⟩
   go_simp
   with_reducible rfl
 rotate_left
 · exact putB
 refine one_ (i := 0) (N := some 3) #[true, true, true, true, true, false, true, true, true, true, true, true, true, true, true, true, true, true, false, false] rfl rfl (by kernel_rfl) (by decide) (fun K hK => ?_)
 refine Kd.R_lit_step k55 _ 55 ?hg (N := 3) ?hd (xs := ([] : List S55)) (inner := []) (ok := fun _ => True) (okp := fun _ => True) ?hr ?hp (fun _ hk => hk) trivial (Below.refl _ _) (Nat.le_refl _) (by simp) ?_; (case hd => rfl); (case hg => rfl); (case hr => first | (go_simp; done) | (go_simp; rfl)); (case hp => exact (Reps.none _ _))
 intro v3 wa ho_ hb hg_ hnew_
 clear hg_ hnew_
 have HL := Aside0.mk (Kd.R_lower ho_ HB.out.size)
 have n0_ := Aside0.mk (below_step HB.out hb)
 have n1_ := Aside0.mk (blk_below BH.out hb)
 have n2_ := Aside0.mk (blk_below BR.out hb)
 clear q0 q1 q2 q3 HB BH BR
 have HB := n0_
 have BH := n1_
 have BR := n2_
 clear n0_ n1_ n2_
 clear ho_ hb
 have q0 : wa.cell? ⟨g, 0, none⟩ = some (.slice A0 l0.length c0) := (blk_cell BH.out 0).trans rfl
 have q1 : wa.cell? ⟨g, 1, none⟩ = some (.int .i16 a1) := (blk_cell BH.out 1).trans rfl
 have q2 : wa.cell? ⟨g, 2, none⟩ = some (.int .i8 a2) := (blk_cell BH.out 2).trans rfl
 have q3 : wa.cell? ⟨g, 3, none⟩ = some (.int .i16 a3) := (blk_cell BH.out 3).trans rfl
 refine hK.out _ _ ⟨q0, q1, q2, q3⟩ (fun hHeld => ?_)
 clear hK K
 refine norm_ (a' := ?_) ?_ ?_
 rotate_left
 · show Act.put _ (some 3) _ = _
   exact putB
 refine one_ (i := 5) (N := some 8) #[true, true, true, true, true, true, true, true, true, true, true, true, true, true, true, true, true, true, false, false] rfl rfl (by kernel_rfl) (by decide) (fun K hK => ?_)
 obtain ⟨Al, cl, el⟩ := Kd.R_slice HL.out
 subst el
 refine Kd.R_append_rows_step k55 (Rr := k55.K wa) (w0 := W) W.heap.size (by rfl) (.tmp 3) (.tmp 7) 30 55 _ _ rfl Try.underlying30 infoSt rfl (by decide) (by omega) (.slice Al ([] : List S55).length cl) ([] : List S55) l0 _ _ _ (fun _ => True) (fun k_ => some k_ ≠ (.slice Al ([] : List S55).length cl : Value).ownBlock) rfl rfl ?aO ?aR ?aK (fun _ h => ⟨trivial, h⟩) (fun _ _ => trivial) ?aB ?aS ?aL ?_
 (case aO => exact HL.out)
 (case aR => exact Kd.C_below HR.out HB.out)
 (case aK => exact (fun x cs h => by have e := k55_cells (show k55.K wa x cs from h); subst e; exact k55_stM _ _ _ _))
 (case aB => exact HB.out)
 (case aS => exact HB.out.size)
 (case aL => have := H4.out; simp only [List.length_nil]; omega)
 intro v8 wc ho hb hg hat
 have n0_ := Aside0.mk (hb)
 have n1_ := Aside0.mk (blk_grown BH.out hg (Kd.R_ne HL.out BH.out (by decide)))
 have n2_ := Aside0.mk (blk_grown BR.out hg (Kd.R_ne HL.out BR.out (by decide)))
 clear q0 q1 q2 q3 HB BH BR
 have HB := n0_
 have BH := n1_
 have BR := n2_
 clear n0_ n1_ n2_
 have HO := Aside0.mk (show Kd.R k55 55 wc W.heap.size (fun _ => True) v8 l0 from ho)
 clear ho hb hg hat HL
 obtain ⟨Av, cv, ev⟩ := Kd.R_slice HO.out
 subst ev
 have q0 : wc.cell? ⟨g, 0, none⟩ = some (.slice A0 l0.length c0) := (blk_cell BH.out 0).trans rfl
 have q1 : wc.cell? ⟨g, 1, none⟩ = some (.int .i16 a1) := (blk_cell BH.out 1).trans rfl
 have q2 : wc.cell? ⟨g, 2, none⟩ = some (.int .i8 a2) := (blk_cell BH.out 2).trans rfl
 have q3 : wc.cell? ⟨g, 3, none⟩ = some (.int .i16 a3) := (blk_cell BH.out 3).trans rfl
 refine hK.out _ _ ⟨q0, q1, q2, q3⟩ (fun hHeld => ?_)
 clear hK K
 refine norm_ (a' := ?_) ?_ ?_
 rotate_left
 · show Act.put _ (some 8) _ = _
   exact putB
 refine pure_ (i := 18) (N := some 21) (v := ?_) (a' := ?_) #[true, true, true, true, true, true, true, true, true, true, true, true, true, true, true, true, true, true, true, false] rfl rfl (by kernel_rfl) (fun _ _ _ h => h) (Or.inl ⟨by rfl, ?_⟩) ?_ ?_
 rotate_left
 · intro w'
   go_simp
   with_reducible rfl
 rotate_left
 · exact putB
 refine last_ (i := 19) (N := none) #[true, true, true, true, true, true, true, true, true, true, true, true, true, true, true, true, true, true, true, true] rfl rfl (by kernel_rfl) (by decide) (fun K hK => ?_)
 have r0 : wc.cell? ⟨gr, 0, none⟩ = some (.slice none 0 0) := (blk_cell BR.out 0).trans rfl
 have r1 : wc.cell? ⟨gr, 1, none⟩ = some (.int .i16 0) := (blk_cell BR.out 1).trans rfl
 have r2 : wc.cell? ⟨gr, 2, none⟩ = some (.int .i8 0) := (blk_cell BR.out 2).trans rfl
 have r3 : wc.cell? ⟨gr, 3, none⟩ = some (.int .i16 0) := (blk_cell BR.out 3).trans rfl
 have f0 : wc.frozen? ⟨gr, 0, none⟩ = false := blk_frozen BR.out 0
 have f1 : wc.frozen? ⟨gr, 1, none⟩ = false := blk_frozen BR.out 1
 have f2 : wc.frozen? ⟨gr, 2, none⟩ = false := blk_frozen BR.out 2
 have f3 : wc.frozen? ⟨gr, 3, none⟩ = false := blk_frozen BR.out 3
 refine skip_ (w1 := ?_) (by rfl) rfl ?_ ?_
 rotate_left
 · go_simp
   rfl
 refine hK.out _ _ ?_
 clear hK K
 refine done_ (by kernel_rfl) ?_
 go_wp2
 refine bodyPost_ret (results_cell_row rfl _ _ gr 32 #[.slice Av l0.length cv, .int .i16 a1, .int .i8 a2, .int .i16 a3] (0, 0) _ rfl (put4_blk BR.out) Try.underlying32 rfl (by kernel_rfl)) rfl ?_
 exact ⟨_, rfl, Kd.R_mono (Kd.R_move (Kd.R_types HO.out BR.out (by decide)) (fun k_ hk => put4_block k_ hk.2)) (fun _ _ => trivial), put4_below HB.out GR.out⟩
end Go.Proofs.Ytggjdcijplgpdaa.H
end
section
namespace Go.Proofs.Ytggjdcijplgpdaa.H
open Go.RowKit Go.Proofs.YtggjdcijplgpdaaW.PrintWords Go.Proofs.YtggjdcijplgpdaaW.PrintLast Go.Proofs.YtggjdcijplgpdaaW.PrintMore
attribute [local go_sem] max2_int min2_int max_two min_two max_three min_three max_four min_four
set_option linter.unusedVariables false
set_option linter.unusedSimpArgs false
structure EqEnv (a b : List Int) (g1 g2 : Nat) (w wr : World) : Prop where
 k1 : wr.heap[g1]? = some (.cells (mix8 a 8) 53 (0, 0))
 k2 : wr.heap[g2]? = some (.cells (mix8 b 8) 53 (0, 0))
 hb : Below w.heap.size w wr
theorem EqEnv.drewN {a b : List Int} {g1 g2 : Nat} {w wr : World} (h : EqEnv a b g1 g2 w wr) (n : Nat) : EqEnv a b g1 g2 w (wr.drewN n) := ⟨blk_drewN h.k1 n, blk_drewN h.k2 n, pw_below_drewN h.hb n⟩
end Go.Proofs.Ytggjdcijplgpdaa.H
end
section
namespace Go.Proofs.Ytggjdcijplgpdaa.H
open Go.RowKit Go.Proofs.YtggjdcijplgpdaaW.PrintWords Go.Proofs.YtggjdcijplgpdaaW.PrintLast Go.Proofs.YtggjdcijplgpdaaW.PrintMore
attribute [local go_sem] max2_int min2_int max_two min_two max_three min_three max_four min_four
set_option linter.unusedVariables false
set_option linter.unusedSimpArgs false
def wr_ (j : Nat) (v : Int) : Int := if j < 24 then IntKind.i16.wrap v else IntKind.i32.wrap v
def Marked1 (s : S55) (b : Int) (n : Nat) : Prop := ∀ j, j < n → s.at_ j = wr_ j (b + (j : Int))
theorem Marked1.zero (s : S55) (b : Int) : Marked1 s b 0 := fun _ h => absurd h (by omega)
def MarkedL (l : List S55) (a : Int) (n : Nat) : Prop := ∀ k, k < n → Marked1 (l.getD k z55) (a + 25 * (k : Int)) 25
theorem MarkedL.set {l : List S55} {a : Int} {n : Nat} (h : MarkedL l a n) (hn : n < l.length) {s : S55} (hs : Marked1 s (a + 25 * (n : Int)) 25) : MarkedL (l.set n s) a (n + 1) := fun k hk => by
 by_cases e : k = n
 · subst e
   rw [List.getD_eq_getElem?_getD, List.getElem?_set_self hn]
   exact hs
 · rw [List.getD_eq_getElem?_getD, List.getElem?_set_ne (fun q => e q.symm), ← List.getD_eq_getElem?_getD]
   exact h k (by omega)
end Go.Proofs.Ytggjdcijplgpdaa.H
end
