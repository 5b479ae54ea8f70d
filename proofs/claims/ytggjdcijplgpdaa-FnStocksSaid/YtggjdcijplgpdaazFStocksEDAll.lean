import Derived.Test.YtggjdcijplgpdaazFStocksECloneSt
import Derived.Test.YtggjdcijplgpdaazFStocksEDay1
import Derived.Test.YtggjdcijplgpdaazFStocksELayG
import Derived.Test.YtggjdcijplgpdaazFStocksEDayOf
import Derived.Test.YtggjdcijplgpdaazFStocksEInH
import Derived.Test.YtggjdcijplgpdaazFStocksENeedC
import Derived.Test.YtggjdcijplgpdaazFStocksH12
import Derived.Test.YtggjdcijplgpdaazFStocksEVHouse
import Derived.Shelf.Abstract
import Derived.Deep.QuietTactic
import Derived.BigQuiet
namespace Go.Proofs.Ytggjdcijplgpdaa.H
open Go.RowKit Go.Proofs.YtggjdcijplgpdaaW.PrintWords Go.Proofs.YtggjdcijplgpdaaW.PrintLast Go.Proofs.YtggjdcijplgpdaaW.PrintMore
attribute [local go_sem] max2_int min2_int max_two min_two max_three min_three max_four min_four
set_option linter.unusedVariables false
set_option linter.unusedSimpArgs false
theorem InH.keepsS {W W' : World} {g g2 cap : Nat} {l : List S55} {a1 a2 a3 : Int} (h : InH W g g2 cap l a1 a2 a3 W) {l' : List S55} {b1 b2 b3 : Int} (h' : InH W g g2 cap l' b1 b2 b3 W') {base : Nat} {ok : Nat → Prop} {v : Value} {xs : List (List Int)} (hs : Kd.S (Kd.slice 2 (Kd.int .i64)) 49 W base ok v xs) : Kd.S (Kd.slice 2 (Kd.int .i64)) 49 W' base (fun k => ok k ∧ k < W.heap.size) v xs := by
 obtain ⟨cs, hh, _⟩ := h.row.blk
 exact Kd.S_mono (Kd.S_step (Kd.S_bound (Kd.S_types (Kd.S_types hs h.hs (by decide)) hh (by decide))) (fun k hk hlt => h'.block k hlt hk.1.1.2 hk.1.2)) (fun k hk => ⟨hk.1.1.1, hk.2.2.1⟩)
theorem put4_block {w : World} {g : Nat} {x0 x1 x2 x3 : Value} (k : Nat) (hk : k ≠ g) : ((((w.setCell ⟨g, 0, none⟩ x0).setCell ⟨g, 1, none⟩ x1).setCell ⟨g, 2, none⟩ x2).setCell ⟨g, 3, none⟩ x3).heap[k]? = w.heap[k]? :=
 ((Below.heap_setCell _ ⟨g, 3, none⟩ _ k hk).trans ((Below.heap_setCell _ ⟨g, 2, none⟩ _ k hk).trans ((Below.heap_setCell _ ⟨g, 1, none⟩ _ k hk).trans (Below.heap_setCell _ ⟨g, 0, none⟩ _ k hk))))
theorem put4_blk {w : World} {g : Nat} {x0 x1 x2 x3 y0 y1 y2 y3 : Value} (h : w.heap[g]? = some (.cells #[y0, y1, y2, y3] 32 (0, 0))) : ((((w.setCell ⟨g, 0, none⟩ x0).setCell ⟨g, 1, none⟩ x1).setCell ⟨g, 2, none⟩ x2).setCell ⟨g, 3, none⟩ x3).heap[g]? = some (.cells #[x0, x1, x2, x3] 32 (0, 0)) :=
 blk_put (blk_put (blk_put (blk_put h 0 x0 rfl) 1 x1 rfl) 2 x2 rfl) 3 x3 rfl
theorem put4_below {w0 w : World} {g : Nat} {x0 x1 x2 x3 : Value} (h : Below w0.heap.size w0 w) (hg : w0.heap.size ≤ g) : Below w0.heap.size w0 ((((w.setCell ⟨g, 0, none⟩ x0).setCell ⟨g, 1, none⟩ x1).setCell ⟨g, 2, none⟩ x2).setCell ⟨g, 3, none⟩ x3) :=
 below_set (below_set (below_set (below_set h hg) hg) hg) hg
theorem InH.made {w0 w : World} {g g2 cap : Nat} {l : List S55} {a1 a2 a3 : Int} (hs : w.heap[g]? = some (.cells #[.slice (some ⟨g2, 0, none⟩) l.length cap, .int .i16 a1, .int .i8 a2, .int .i16 a3] 32 (0, 0))) (row : RowSt w g2 cap l) (hb : Below w0.heap.size w0 w) : InH w0 g g2 cap l a1 a2 a3 w :=
 ⟨hs, row, hb.os, hb.tape, hb.output, hb.size, fun b h1 _ _ => hb.block b h1⟩
def DayPost (r : HRes) (w : World) (e : Ending) (w' : World) : Prop := ∃ v0 v1 : Value, e = .returned (.tuple #[.agg #[v0, .int .i16 r.a1, .int .i8 r.a2, .int .i16 r.a3], v1, .int .i64 r.c]) ∧ Kd.R k55 55 w' w.heap.size (fun _ => True) v0 r.l ∧ Kd.S (Kd.slice 2 (Kd.int .i64)) 49 w' w.heap.size (fun _ => True) v1 r.out ∧ Below w.heap.size w w'
set_option maxHeartbeats 40000000 in
set_option maxRecDepth 100000 in
theorem dayAll_walk (W : World) (A0 A1 : Option Addr) (c0 c1 : Nat) (l0 : List S55) (a1 a2 a3 : Int) (days : List (List Int)) (hr0 : Kd.C k55 W A0 l0.length l0) (hc0 : l0.length ≤ c0) (ht : TypedH l0 a1 a2 a3) (hr1 : Kd.C (Kd.slice 2 (Kd.int .i64)) W A1 days.length days) (hc1 : days.length ≤ c1) :
 Calls Try.prog 12 #[.agg #[.slice A0 l0.length c0, .int .i16 a1, .int .i8 a2, .int .i16 a3], .slice A1 days.length c1] W fun e w' => DayPost (dayAllOf l0 a1 a2 a3 days) W e w' := by
 have mixed : Try.prog.follows .mixedOrders = true := by kernel_rfl
 have hu32 := Try.underlying32
 obtain ⟨x1, h1⟩ : ∃ x, codeB (validH l0 a1 a2 a3) 1 = x := ⟨_, rfl⟩
 obtain ⟨x2, h2⟩ : ∃ x, codeB (decide ((days.length : Int) ≤ 60)) 3 = x := ⟨_, rfl⟩
 obtain ⟨r0, h0⟩ : ∃ x, firstC x1 x2 = x := ⟨_, rfl⟩
 have hst : startC l0 a1 a2 a3 days.length = r0 := by unfold startC; rw [h1, h2, h0]
 have HV := Aside0.mk (fun (w : World) (hb : Below W.heap.size W w) => validHouse_calls A0 c0 l0 a1 a2 a3 w (Kd.C_below hr0 hb) hc0 ht)
 have HU1 := Aside0.mk (fun (w : World) => impl_unless.calls (validH l0 a1 a2 a3) 1 _ w ((unless_B _ 1).trans (congrArg some h1)))
 have HU2 := Aside0.mk (fun (w : World) => impl_unless.calls (decide ((days.length : Int) ≤ 60)) 3 _ w ((unless_B _ 3).trans (congrArg some h2)))
 have HF1 := Aside0.mk (fun (A : Option Addr) (c : Nat) (w : World) (hr : Kd.C (Kd.int .i64) w A ([x1, x2] : List Int).length [x1, x2]) (hc : ([x1, x2] : List Int).length ≤ c) => impl_firstOf.calls 3 A c [x1, x2] _ w hr hc ((firstOf_two x1 x2).trans (congrArg some h0)))
 have HR1 := Aside0.mk hr1
 clear h1 h2 h0
 by_cases hz : r0 = 0
 · subst hz
   have hst2 := start_zero hst
   have HX := Aside0.mk (show dayAllOf l0 a1 a2 a3 days = runDays a1 a2 days l0 a3 [] by unfold dayAllOf; rw [if_pos hst])
   obtain ⟨rr, hrr⟩ : ∃ q, dayAllOf l0 a1 a2 a3 days = q := ⟨_, rfl⟩
   rw [hrr] at HX ⊢
   have HP := Aside0.mk hst2.1.pos
   have HF4 := Aside0.mk hst2.1.four
   have HFT := Aside0.mk hst2.1.tub
   have HFE := Aside0.mk hst2.1.every
   have HFT0 := Aside0.mk hst2.1.today
   have HFS := Aside0.mk hst2.1.st
   have HDL := Aside0.mk hst2.2
   have HO := Aside0.mk (fun (w : World) (hb : Below W.heap.size W w) => impl_House_own.calls A0 c0 l0 a1 a2 a3 l0 a1 a2 a3 w (Kd.C_below hr0 hb) hc0 (by unfold impl_House_own.f slices_Clone_impl_Stock_impl_Stock.f; rw [if_pos (by have := hst2.1.four; omega)]; rfl))
   clear hst hst2 hrr hr0 hc0 ht hr1 hc1
   go_enter Try.func12, Try.ntmps12
   go_wp2_with (first | ((with_reducible refine gate_dst (N := 2) rfl ?_); refine box_event ?hg (N := 2) ?hd (cs := #[.slice A0 l0.length c0, .int .i16 a1, .int .i8 a2, .int .i16 a3]) (t := 32) ?hr ?_; (case hd => rfl); (case hg => rfl); (case hr => first | (go_simp; done) | (go_simp; rfl)); intro gh hg_ w1 hbox hb; have GH := Aside0.mk (by rw [hg_]; exact Nat.le_refl _ : W.heap.size ≤ gh); have BH := Aside0.mk hbox; have HB := Aside0.mk hb; have hu32 := Try.underlying32; clear hb hbox hg_) | ((with_reducible refine gate_dst (N := 4) rfl ?_); refine box_event ?hg (N := 4) ?hd (cs := #[.slice none 0 0, .int .i16 0, .int .i8 0, .int .i16 0]) (t := 32) ?hr ?_; (case hd => rfl); (case hg => rfl); (case hr => first | (go_simp; done) | (go_simp; rfl)); intro gr hg_ w2 hbox hb; have GR := Aside0.mk (by rw [hg_]; exact HB.out.size : W.heap.size ≤ gr); have NRH := Aside0.mk (by rw [hg_]; exact Nat.ne_of_lt (blk_lt BH.out) : gh ≠ gr); have BR := Aside0.mk hbox; have n0_ := Aside0.mk (below_step HB.out hb); have n1_ := Aside0.mk (blk_below BH.out hb); clear HB BH; have HB := n0_; have BH := n1_; clear n0_ n1_; have ha0 : w2.cell? ⟨gh, 0, none⟩ = some (.slice A0 l0.length c0) := (blk_cell BH.out 0).trans rfl; have ha1 : w2.cell? ⟨gh, 1, none⟩ = some (.int .i16 a1) := (blk_cell BH.out 1).trans rfl; have ha2 : w2.cell? ⟨gh, 2, none⟩ = some (.int .i8 a2) := (blk_cell BH.out 2).trans rfl; have ha3 : w2.cell? ⟨gh, 3, none⟩ = some (.int .i16 a3) := (blk_cell BH.out 3).trans rfl; clear hb hbox hg_) | (go_at_call 63; (with_reducible refine (HV.out _ ?side1).mono ?_); (case side1 => exact HB.out); rintro e w3 ⟨rfl, hb⟩; have n0_ := Aside0.mk (below_step HB.out hb); have n1_ := Aside0.mk (blk_below BH.out hb); have n2_ := Aside0.mk (blk_below BR.out hb); clear HB BH BR; have HB := n0_; have BH := n1_; have BR := n2_; clear n0_ n1_ n2_; clear hb ha0 ha1 ha2 ha3) | (go_at_call 62; (with_reducible refine (HU1.out _).mono ?_); rintro e w4 ⟨rfl, hd⟩; have hb := hd.below; have n0_ := Aside0.mk (below_step HB.out hb); have n1_ := Aside0.mk (blk_below BH.out hb); have n2_ := Aside0.mk (blk_below BR.out hb); clear HB BH BR; have HB := n0_; have BH := n1_; have BR := n2_; clear n0_ n1_ n2_; clear hb hd) | (go_at_call 62; (with_reducible refine (HU2.out _).mono ?_); rintro e w5 ⟨rfl, hd⟩; have hb := hd.below; have n0_ := Aside0.mk (below_step HB.out hb); have n1_ := Aside0.mk (blk_below BH.out hb); have n2_ := Aside0.mk (blk_below BR.out hb); clear HB BH BR; have HB := n0_; have BH := n1_; have BR := n2_; clear n0_ n1_ n2_; clear hb hd) | ((with_reducible refine gate_dst (N := 20) rfl ?_); refine Kd.R_lit (Kd.int .i64) _ 2 ?hg (N := 20) ?hd (xs := ([x1, x2] : List Int)) (inner := [.int .i64 x1, .int .i64 x2]) (ok := fun _ => True) (okp := fun _ => True) ?hr ?hp (fun _ hk => hk) trivial (Below.refl _ _) (Nat.le_refl _) (by simp) ?_; (case hd => rfl); (case hg => rfl); (case hr => first | (go_simp; done) | (go_simp; rfl)); (case hp => exact (Reps.one (show Kd.M (Kd.int .i64) _ _ _ x1 [.int .i64 x1] from rfl) (Reps.one (show Kd.M (Kd.int .i64) _ _ _ x2 [.int .i64 x2] from rfl) (Reps.none _ _)))); intro v20 w6 ho_ hb hg_ hnew_; clear hg_ hnew_; have n0_ := Aside0.mk (below_step HB.out hb); have n1_ := Aside0.mk (blk_below BH.out hb); have n2_ := Aside0.mk (blk_below BR.out hb); clear HB BH BR; have HB := n0_; have BH := n1_; have BR := n2_; clear n0_ n1_ n2_; have HL := Aside0.mk ho_; clear ho_ hb; obtain ⟨Al, cl, el⟩ := Kd.R_slice HL.out; subst el) | (go_at_call 61; refine (HF1.out Al cl _ (Kd.R_reads' HL.out).2.2 (Kd.R_reads' HL.out).2.1).mono ?_; rintro e w7 ⟨rfl, hd⟩; have hb := hd.below; have n0_ := Aside0.mk (below_step HB.out hb); have n1_ := Aside0.mk (blk_below BH.out hb); have n2_ := Aside0.mk (blk_below BR.out hb); clear HB BH BR; have HB := n0_; have BH := n1_; have BR := n2_; clear n0_ n1_ n2_; clear hb hd HL; have hb0 : w7.cell? ⟨gh, 0, none⟩ = some (.slice A0 l0.length c0) := (blk_cell BH.out 0).trans rfl; have hb1 : w7.cell? ⟨gh, 1, none⟩ = some (.int .i16 a1) := (blk_cell BH.out 1).trans rfl; have hb2 : w7.cell? ⟨gh, 2, none⟩ = some (.int .i8 a2) := (blk_cell BH.out 2).trans rfl; have hb3 : w7.cell? ⟨gh, 3, none⟩ = some (.int .i16 a3) := (blk_cell BH.out 3).trans rfl) | (go_at_call 64; (with_reducible refine (HO.out _ ?side1).mono ?_); (case side1 => exact HB.out); rintro e w8 ⟨v8, rfl, hR, hb⟩; have RW := Aside0.mk (Kd.R_lower hR HB.out.size); have n0_ := Aside0.mk (below_step HB.out hb); have n1_ := Aside0.mk (blk_below BH.out hb); have n2_ := Aside0.mk (blk_below BR.out hb); clear HB BH BR; have HB := n0_; have BH := n1_; have BR := n2_; clear n0_ n1_ n2_; clear hb hR hb0 hb1 hb2 hb3; obtain ⟨g2, cap, e8, hg2, _, hrow⟩ := row_of_R RW.out HP.out; subst e8; have RS := Aside0.mk hrow; have G2 := Aside0.mk hg2; clear hrow hg2 RW) | ((with_reducible refine gate_dst (N := 28) rfl ?_); refine Kd.S_lit (Kd.slice 2 (Kd.int .i64)) _ 49 ?hg (N := 28) ?hd (xs := ([] : List (List Int))) (inner := []) (ok := fun _ => True) (okp := fun _ => True) ?hr ?hp (fun _ hk => hk) trivial (Below.refl _ _) (Nat.le_refl _) (by simp) ?_; (case hd => rfl); (case hg => rfl); (case hr => first | (go_simp; done) | (go_simp; rfl)); (case hp => exact (Reps.none _ _)); intro v28 w9 ho_ hb hg_ hnew_; clear hg_ hnew_; have HS := Aside0.mk (Kd.S_lower ho_ HB.out.size); have n0_ := Aside0.mk (RS.out.move (hb.block _ RS.out.lt)); have n1_ := Aside0.mk (below_step HB.out hb); have n2_ := Aside0.mk (blk_below BR.out hb); clear RS HB BR; have RS := n0_; have HB := n1_; have BR := n2_; clear n0_ n1_ n2_; clear ho_ hb) | ((with_reducible refine gate_dst (N := 8) rfl ?_); refine box_event ?hg (N := 8) ?hd (cs := #[.slice none 0 0, .int .i16 0, .int .i8 0, .int .i16 0]) (t := 32) ?hr ?_; (case hd => rfl); (case hg => rfl); (case hr => first | (go_simp; done) | (go_simp; rfl)); intro go hg_ w10 hbox hb; have GO := Aside0.mk (by rw [hg_]; exact HB.out.size : W.heap.size ≤ go); have NRO := Aside0.mk (by rw [hg_]; exact Nat.ne_of_lt (blk_lt BR.out) : gr ≠ go); have BO := Aside0.mk hbox; have n0_ := Aside0.mk (RS.out.move (hb.block _ RS.out.lt)); have n1_ := Aside0.mk (Kd.S_below HS.out hb); have n2_ := Aside0.mk (below_step HB.out hb); have n3_ := Aside0.mk (blk_below BR.out hb); clear RS HS HB BR; have RS := n0_; have HS := n1_; have HB := n2_; have BR := n3_; clear n0_ n1_ n2_ n3_; have ho0 : w10.cell? ⟨go, 0, none⟩ = some (.slice none 0 0) := (blk_cell BO.out 0).trans rfl; have ho1 : w10.cell? ⟨go, 1, none⟩ = some (.int .i16 0) := (blk_cell BO.out 1).trans rfl; have ho2 : w10.cell? ⟨go, 2, none⟩ = some (.int .i8 0) := (blk_cell BO.out 2).trans rfl; have ho3 : w10.cell? ⟨go, 3, none⟩ = some (.int .i16 0) := (blk_cell BO.out 3).trans rfl; have fo0 : w10.frozen? ⟨go, 0, none⟩ = false := blk_frozen BO.out 0; have fo1 : w10.frozen? ⟨go, 1, none⟩ = false := blk_frozen BO.out 1; have fo2 : w10.frozen? ⟨go, 2, none⟩ = false := blk_frozen BO.out 2; have fo3 : w10.frozen? ⟨go, 3, none⟩ = false := blk_frozen BO.out 3; clear hb hbox hg_))
   clear ho0 ho1 ho2 ho3 fo0 fo1 fo2 fo3
   clear HV HU1 HU2 HF1 HO
   go_loopg [9, 31] days.length (fun gk v9 v31 wr => ∃ (k : Nat) (lk : List S55) (ak : Int) (outs : List (List Int)), k ≤ days.length ∧ days.length - k ≤ gk ∧ v31 = .int .i64 k ∧ Aside0 (runDays a1 a2 (days.drop k) lk ak outs = rr) ∧ Aside0 (FitL lk ∧ lk.length = l0.length ∧ outs.length = k) ∧ Aside0 (0 ≤ ak ∧ ak ≤ 60) ∧ Aside0 (InH W go g2 cap lk a1 a2 ak wr) ∧ Aside0 (wr.heap[gr]? = some (.cells #[.slice none 0 0, .int .i16 0, .int .i8 0, .int .i16 0] 32 (0, 0))) ∧ Aside0 (Kd.S (Kd.slice 2 (Kd.int .i64)) 49 wr W.heap.size (fun _ => True) v9 outs))
   case atStart => exact ⟨0, l0, a3, [], by omega, by omega, rfl, ⟨HX.out.symm⟩, ⟨HFS.out, rfl, rfl⟩, HFT0, ⟨InH.made (put4_blk BO.out) (RS.out.move (put4_block _ (blk_ne RS.out.blk.choose_spec.1 BO.out (by decide)))) (put4_below HB.out GO.out)⟩, ⟨(put4_block _ NRO.out).trans BR.out⟩, ⟨Kd.S_mono (Kd.S_step (Kd.S_types HS.out BO.out (by decide)) (fun k_ hk _ => put4_block k_ hk.2)) (fun _ hk => hk.1)⟩⟩
   case round =>
    clear BH BR HB HS RS BO HX HFS HFT0
    obtain ⟨k, lk, ak, outs, hk, hgk, rfl, HRUN, HFA, HAK, H, BR, HS⟩ := hrel
    have HFL := Aside0.mk HFA.out.1
    have HLL := Aside0.mk HFA.out.2.1
    have HOL := Aside0.mk HFA.out.2.2
    clear HFA
    obtain ⟨A9, c9, e9⟩ := Kd.S_slice HS.out
    subst e9
    by_cases hlt : k < days.length
    · have hltz : (k : Int) < (days.length : Int) := by omega
      have HLT := Aside0.mk hlt
      obtain ⟨adN, Ak, ck, eN, hx, hcl, hci⟩ := at_L5 HR1.out (k : Int) (by omega) hltz
      subst eN
      obtain ⟨dk, hdk⟩ : ∃ d, rd_L5 days (k : Int) = d := ⟨_, rfl⟩
      rw [hdk] at hx hcl hci
      have hx0 : W.cell? (adN.add k) = some (.slice Ak dk.length ck) := hx
      have hxr := ((H.out.below (Below.refl _ _) GO.out G2.out).cell (World.block_lt_of_cell? W _ hx0)).trans hx0
      have HDI := Aside0.mk hci
      have HDC := Aside0.mk hcl
      have hdrop : days.drop k = dk :: days.drop (k + 1) := by
       rw [List.drop_eq_getElem_cons hlt, ← hdk]
       congr 1
       show _ = days.getD k []
       rw [List.getD_eq_getElem?_getD, List.getElem?_eq_getElem hlt]
       rfl
      have HRN := HRUN.out
      rw [hdrop, runDays] at HRN
      clear hx hx0 hcl hci hdk hdrop HRUN
      have HD := Aside0.mk (fun (w : World) (hb : Below wr.heap.size wr w) => dayCode_walk w go g2 cap lk a1 a2 ak Ak ck dk (InH.start (H.out.step hb).hs (H.out.step hb).row) (Kd.C_below HDI.out ((H.out.step hb).below (Below.refl _ _) GO.out G2.out)) HDC.out)
      obtain ⟨cd, hcd⟩ : ∃ x, dayC lk ak dk = x := ⟨_, rfl⟩
      rw [hcd] at HD HRN
      by_cases hcz : cd = 0
      · subst hcz
        rw [if_pos rfl] at HRN
        have HDZ := Aside0.mk (dayC_zero hcd)
        rw [show (dayC lk ak dk = 0) = (dayC lk ak dk = 0) from rfl] at hcd
        obtain ⟨q0, hq0⟩ : ∃ q, dayOf lk a1 a2 ak dk = q := ⟨_, rfl⟩
        have hok := dayOf_ok (a2 := a2) (a3 := ak) HFL.out HFT.out HDZ.out.1.2 HDZ.out.1.1
        rw [hq0] at HRN hok
        have HOK := Aside0.mk hok
        have HRUN := Aside0.mk HRN
        have HQ := Aside0.mk hq0
        have HTD := Aside0.mk (show 0 ≤ ak ∧ ak < 60 from ⟨HAK.out.1, HDZ.out.2⟩)
        clear hcd HRN hok hq0
        go_wp2_with (first | (go_at_call 65; (with_reducible refine (HD.out _ ?side1).mono ?_); (case side1 => exact Below.refl _ _); rintro e w11 ⟨rfl, hb⟩; have n0_ := Aside0.mk (blk_below BR.out hb); have n1_ := Aside0.mk (Kd.S_below HS.out hb); have n2_ := Aside0.mk (H.out.step hb); clear BR HS H; have BR := n0_; have HS := n1_; have H := n2_; clear n0_ n1_ n2_; clear hb; skip) | (go_at_call 66; (with_reducible refine (day_walk W w11 w11 go g2 cap lk a1 a2 ak Ak ck dk HFL.out HFT.out HFE.out HTD.out HDZ.out.1.2 HDZ.out.1.1 (by rw [HLL.out]; exact HF4.out) HDI.out (H.out.below (Below.refl _ _) GO.out G2.out) ⟨GO.out, G2.out⟩ (InH.start H.out.hs H.out.row)).mono ?_); rintro e w12 ⟨vd, rfl, hv, hI⟩; rw [HQ.out] at hv hI; have HVD := Aside0.mk hv; have HSB := Aside0.mk (fun k (hk : (Value.slice A9 outs.length c9).ownBlock = some k) => Kd.S_lt HS.out k hk); have HSZ := Aside0.mk H.out.size; have n0_ := Aside0.mk ((hI.block gr (blk_lt BR.out) NRO.out (blk_ne BR.out H.out.row.blk.choose_spec.1 (by decide))).trans BR.out); have n1_ := Aside0.mk ((InH.start H.out.hs H.out.row).keepsS hI HS.out); have n2_ := Aside0.mk (H.out.trans hI); clear BR HS H; have BR := n0_; have HS := n1_; have H := n2_; clear n0_ n1_ n2_; clear hv hI; obtain ⟨Av, cv, ev⟩ := Kd.R_slice HVD.out; subst ev) | ((with_reducible refine gate_builtin (b := .append) (xs := #[.tmp 41, .tmp 44]) rfl ?_); at_builtin; refine Kd.S_append (Kd.slice 2 (Kd.int .i64)) (w0 := W) W.heap.size rfl (.tmp 41) (.tmp 44) 27 49 (.slice none 0 0) 24 rfl Try.underlying27 info49 rfl (by decide) (by omega) (.slice A9 outs.length c9) outs q0.2 [.slice Av q0.2.length cv] (fun _ => True) (fun k_ => w11.heap.size ≤ k_) rfl rfl ?aP ?aK ?aF ?aO ?aB ?aS ?aL ?_; (case aP => exact ⟨_, rfl, Kd.R_lower (Kd.R_mono (Kd.R_bound HVD.out) (fun _ hk => hk.2.1)) HSZ.out⟩); (case aK => exact (fun k_ hk => ⟨trivial, fun e => by have := HSB.out k_ e.symm; omega⟩)); (case aF => exact (fun _ _ => trivial)); (case aO => exact Kd.S_mono HS.out (fun k_ hk => ⟨trivial, by have := hk.2; omega⟩)); (case aB => exact H.out.below (Below.refl _ _) GO.out G2.out); (case aS => exact H.out.size); (case aL => have := HOL.out; have := HDL.out; omega); intro v13 w13 hs hbB hg hat; have n0_ := Aside0.mk (blk_grown BR.out hg (Kd.S_ne HS.out BR.out (by decide))); have n1_ := Aside0.mk (H.out.grown hg (Kd.S_ne HS.out H.out.hs (by decide)) (Kd.S_ne HS.out H.out.row.blk.choose_spec.1 (by decide)) (fun k_ e_ => Kd.S_base HS.out k_ e_)); have n2_ := Aside0.mk (hs); clear BR H HS; have BR := n0_; have H := n1_; have HS := n2_; clear n0_ n1_ n2_; clear hs hbB hg hat HVD HSB HSZ))
        have hlt_ := HLT.out
        have hdl_ := HDL.out
        go_roundg (days.length - (k + 1))
        case measure => omega
        case rel => exact ⟨k + 1, q0.1, ak + 1, outs ++ [q0.2], by omega, by omega, by have hw_ : wrap64 ((k : Int) + 1) = ((k + 1 : Nat) : Int) := (w64i (by omega) (by omega)).trans (by omega); first | rfl | rw [hw_] | (simp only [i64_w, hw_]) | go_num, HRUN, ⟨HOK.out.1, HOK.out.2.trans HLL.out, by rw [List.length_append, HOL.out]; rfl⟩, ⟨by have := HTD.out; omega⟩, H, BR, HS⟩
      · rw [if_neg hcz] at HRN
        have hcb : (cd != 0) = true := bne_iff_ne.mpr hcz
        clear hcd
        have HRUN := Aside0.mk HRN
        clear HRN hcz
        go_wp2_with (first | (go_at_call 65; (with_reducible refine (HD.out _ ?side1).mono ?_); (case side1 => exact Below.refl _ _); rintro e w11 ⟨rfl, hb⟩; have n0_ := Aside0.mk (blk_below BR.out hb); have n1_ := Aside0.mk (Kd.S_below HS.out hb); have n2_ := Aside0.mk (H.out.step hb); clear BR HS H; have BR := n0_; have HS := n1_; have H := n2_; clear n0_ n1_ n2_; clear hb; have hs0 : w11.cell? ⟨gr, 0, none⟩ = some (.slice none 0 0) := (blk_cell BR.out 0).trans rfl; have fs0 : w11.frozen? ⟨gr, 0, none⟩ = false := blk_frozen BR.out 0; have hs1 : w11.cell? ⟨gr, 1, none⟩ = some (.int .i16 0) := (blk_cell BR.out 1).trans rfl; have fs1 : w11.frozen? ⟨gr, 1, none⟩ = false := blk_frozen BR.out 1; have hs2 : w11.cell? ⟨gr, 2, none⟩ = some (.int .i8 0) := (blk_cell BR.out 2).trans rfl; have fs2 : w11.frozen? ⟨gr, 2, none⟩ = false := blk_frozen BR.out 2; have hs3 : w11.cell? ⟨gr, 3, none⟩ = some (.int .i16 0) := (blk_cell BR.out 3).trans rfl; have fs3 : w11.frozen? ⟨gr, 3, none⟩ = false := blk_frozen BR.out 3))
        refine bodyPost_ret (results_ctt rfl _ _ gr 32 #[.slice none 0 0, .int .i16 0, .int .i8 0, .int .i16 0] (0, 0) _ rfl (put4_blk BR.out) Try.underlying32 rfl (by kernel_rfl)) rfl ?_
        rw [← HRUN.out]
        exact ⟨_, _, rfl, Kd.R_nil _ _ _ _ _, Kd.S_nil _ _ _ _ _, put4_below (H.out.below (Below.refl _ _) GO.out G2.out) GR.out⟩
    · have hltz : ¬ (k : Int) < (days.length : Int) := by omega
      obtain rfl : k = days.length := by omega
      have HRN := HRUN.out
      rw [List.drop_length, runDays] at HRN
      have HRUN := Aside0.mk HRN
      clear HRN
      have d0 : wr.cell? ⟨go, 0, none⟩ = some (.slice (some ⟨g2, 0, none⟩) lk.length cap) := H.out.cell 0
      have d1 : wr.cell? ⟨go, 1, none⟩ = some (.int .i16 a1) := H.out.cell 1
      have d2 : wr.cell? ⟨go, 2, none⟩ = some (.int .i8 a2) := H.out.cell 2
      have d3 : wr.cell? ⟨go, 3, none⟩ = some (.int .i16 ak) := H.out.cell 3
      have e0 : wr.cell? ⟨gr, 0, none⟩ = some (.slice none 0 0) := (blk_cell BR.out 0).trans rfl
      have ef0 : wr.frozen? ⟨gr, 0, none⟩ = false := blk_frozen BR.out 0
      have e1 : wr.cell? ⟨gr, 1, none⟩ = some (.int .i16 0) := (blk_cell BR.out 1).trans rfl
      have ef1 : wr.frozen? ⟨gr, 1, none⟩ = false := blk_frozen BR.out 1
      have e2 : wr.cell? ⟨gr, 2, none⟩ = some (.int .i8 0) := (blk_cell BR.out 2).trans rfl
      have ef2 : wr.frozen? ⟨gr, 2, none⟩ = false := blk_frozen BR.out 2
      have e3 : wr.cell? ⟨gr, 3, none⟩ = some (.int .i16 0) := (blk_cell BR.out 3).trans rfl
      have ef3 : wr.frozen? ⟨gr, 3, none⟩ = false := blk_frozen BR.out 3
      go_wp2
      refine bodyPost_ret (results_ctt rfl _ _ gr 32 #[.slice (some ⟨g2, 0, none⟩) lk.length cap, .int .i16 a1, .int .i8 a2, .int .i16 ak] (0, 0) _ rfl (put4_blk BR.out) Try.underlying32 rfl (by kernel_rfl)) rfl ?_
      rw [← HRUN.out]
      exact ⟨_, _, rfl, R_of_row (H.out.row.move (put4_block _ (blk_ne H.out.row.blk.choose_spec.1 BR.out (by decide)))) G2.out trivial, Kd.S_mono (Kd.S_step (Kd.S_types HS.out BR.out (by decide)) (fun k_ hk _ => put4_block k_ hk.2)) (fun _ _ => trivial), put4_below (H.out.below (Below.refl _ _) GO.out G2.out) GR.out⟩
 · have HX := Aside0.mk (show dayAllOf l0 a1 a2 a3 days = zeroR r0 by unfold dayAllOf; rw [hst, if_neg hz])
   obtain ⟨rr, hrr⟩ : ∃ q, dayAllOf l0 a1 a2 a3 days = q := ⟨_, rfl⟩
   rw [hrr] at HX ⊢
   have hzb : (r0 != 0) = true := bne_iff_ne.mpr hz
   clear hst hrr hr0 hc0 ht hr1 hc1 HR1 hz
   go_enter Try.func12, Try.ntmps12
   go_wp2_with (first | ((with_reducible refine gate_dst (N := 2) rfl ?_); refine box_event ?hg (N := 2) ?hd (cs := #[.slice A0 l0.length c0, .int .i16 a1, .int .i8 a2, .int .i16 a3]) (t := 32) ?hr ?_; (case hd => rfl); (case hg => rfl); (case hr => first | (go_simp; done) | (go_simp; rfl)); intro gh hg_ w1 hbox hb; have GH := Aside0.mk (by rw [hg_]; exact Nat.le_refl _ : W.heap.size ≤ gh); have BH := Aside0.mk hbox; have HB := Aside0.mk hb; have hu32 := Try.underlying32; clear hb hbox hg_) | ((with_reducible refine gate_dst (N := 4) rfl ?_); refine box_event ?hg (N := 4) ?hd (cs := #[.slice none 0 0, .int .i16 0, .int .i8 0, .int .i16 0]) (t := 32) ?hr ?_; (case hd => rfl); (case hg => rfl); (case hr => first | (go_simp; done) | (go_simp; rfl)); intro gr hg_ w2 hbox hb; have GR := Aside0.mk (by rw [hg_]; exact HB.out.size : W.heap.size ≤ gr); have NRH := Aside0.mk (by rw [hg_]; exact Nat.ne_of_lt (blk_lt BH.out) : gh ≠ gr); have BR := Aside0.mk hbox; have n0_ := Aside0.mk (below_step HB.out hb); have n1_ := Aside0.mk (blk_below BH.out hb); clear HB BH; have HB := n0_; have BH := n1_; clear n0_ n1_; have ha0 : w2.cell? ⟨gh, 0, none⟩ = some (.slice A0 l0.length c0) := (blk_cell BH.out 0).trans rfl; have ha1 : w2.cell? ⟨gh, 1, none⟩ = some (.int .i16 a1) := (blk_cell BH.out 1).trans rfl; have ha2 : w2.cell? ⟨gh, 2, none⟩ = some (.int .i8 a2) := (blk_cell BH.out 2).trans rfl; have ha3 : w2.cell? ⟨gh, 3, none⟩ = some (.int .i16 a3) := (blk_cell BH.out 3).trans rfl; clear hb hbox hg_) | (go_at_call 63; (with_reducible refine (HV.out _ ?side1).mono ?_); (case side1 => exact HB.out); rintro e w3 ⟨rfl, hb⟩; have n0_ := Aside0.mk (below_step HB.out hb); have n1_ := Aside0.mk (blk_below BH.out hb); have n2_ := Aside0.mk (blk_below BR.out hb); clear HB BH BR; have HB := n0_; have BH := n1_; have BR := n2_; clear n0_ n1_ n2_; clear hb ha0 ha1 ha2 ha3) | (go_at_call 62; (with_reducible refine (HU1.out _).mono ?_); rintro e w4 ⟨rfl, hd⟩; have hb := hd.below; have n0_ := Aside0.mk (below_step HB.out hb); have n1_ := Aside0.mk (blk_below BH.out hb); have n2_ := Aside0.mk (blk_below BR.out hb); clear HB BH BR; have HB := n0_; have BH := n1_; have BR := n2_; clear n0_ n1_ n2_; clear hb hd) | (go_at_call 62; (with_reducible refine (HU2.out _).mono ?_); rintro e w5 ⟨rfl, hd⟩; have hb := hd.below; have n0_ := Aside0.mk (below_step HB.out hb); have n1_ := Aside0.mk (blk_below BH.out hb); have n2_ := Aside0.mk (blk_below BR.out hb); clear HB BH BR; have HB := n0_; have BH := n1_; have BR := n2_; clear n0_ n1_ n2_; clear hb hd) | ((with_reducible refine gate_dst (N := 20) rfl ?_); refine Kd.R_lit (Kd.int .i64) _ 2 ?hg (N := 20) ?hd (xs := ([x1, x2] : List Int)) (inner := [.int .i64 x1, .int .i64 x2]) (ok := fun _ => True) (okp := fun _ => True) ?hr ?hp (fun _ hk => hk) trivial (Below.refl _ _) (Nat.le_refl _) (by simp) ?_; (case hd => rfl); (case hg => rfl); (case hr => first | (go_simp; done) | (go_simp; rfl)); (case hp => exact (Reps.one (show Kd.M (Kd.int .i64) _ _ _ x1 [.int .i64 x1] from rfl) (Reps.one (show Kd.M (Kd.int .i64) _ _ _ x2 [.int .i64 x2] from rfl) (Reps.none _ _)))); intro v20 w6 ho_ hb hg_ hnew_; clear hg_ hnew_; have n0_ := Aside0.mk (below_step HB.out hb); have n1_ := Aside0.mk (blk_below BH.out hb); have n2_ := Aside0.mk (blk_below BR.out hb); clear HB BH BR; have HB := n0_; have BH := n1_; have BR := n2_; clear n0_ n1_ n2_; have HL := Aside0.mk ho_; clear ho_ hb; obtain ⟨Al, cl, el⟩ := Kd.R_slice HL.out; subst el) | (go_at_call 61; refine (HF1.out Al cl _ (Kd.R_reads' HL.out).2.2 (Kd.R_reads' HL.out).2.1).mono ?_; rintro e w7 ⟨rfl, hd⟩; have hb := hd.below; have n0_ := Aside0.mk (below_step HB.out hb); have n1_ := Aside0.mk (blk_below BH.out hb); have n2_ := Aside0.mk (blk_below BR.out hb); clear HB BH BR; have HB := n0_; have BH := n1_; have BR := n2_; clear n0_ n1_ n2_; clear hb hd HL; have hr0 : w7.cell? ⟨gr, 0, none⟩ = some (.slice none 0 0) := (blk_cell BR.out 0).trans rfl; have hr1 : w7.cell? ⟨gr, 1, none⟩ = some (.int .i16 0) := (blk_cell BR.out 1).trans rfl; have hr2 : w7.cell? ⟨gr, 2, none⟩ = some (.int .i8 0) := (blk_cell BR.out 2).trans rfl; have hr3 : w7.cell? ⟨gr, 3, none⟩ = some (.int .i16 0) := (blk_cell BR.out 3).trans rfl; have fr0 : w7.frozen? ⟨gr, 0, none⟩ = false := blk_frozen BR.out 0; have fr1 : w7.frozen? ⟨gr, 1, none⟩ = false := blk_frozen BR.out 1; have fr2 : w7.frozen? ⟨gr, 2, none⟩ = false := blk_frozen BR.out 2; have fr3 : w7.frozen? ⟨gr, 3, none⟩ = false := blk_frozen BR.out 3))
   refine bodyPost_ret (results_ctt rfl _ _ gr 32 #[.slice none 0 0, .int .i16 0, .int .i8 0, .int .i16 0] (0, 0) _ rfl (put4_blk BR.out) Try.underlying32 rfl (by kernel_rfl)) rfl ?_
   rw [HX.out]
   exact ⟨_, _, rfl, Kd.R_nil _ _ _ _ _, Kd.S_nil _ _ _ _ _, put4_below HB.out GR.out⟩
end Go.Proofs.Ytggjdcijplgpdaa.H
