import Derived.Test.YtggjdcijplgpdaazFStocksEPutB
import Derived.Test.YtggjdcijplgpdaazFStocksENeedC
import Derived.Test.YtggjdcijplgpdaazFStocksEFresh
import Derived.Test.YtggjdcijplgpdaazFStocksEDAll
import Derived.Test.YtggjdcijplgpdaazFStocksEDay2
import Derived.Test.YtggjdcijplgpdaazFStocksEHOk
import Derived.Test.YtggjdcijplgpdaazFStocksEInH
import Derived.Test.YtggjdcijplgpdaazFStocksEKCode
import Derived.Test.YtggjdcijplgpdaazFStocksEVHF
import Derived.Test.YtggjdcijplgpdaazFStocksEDayOf
import Derived.Test.YtggjdcijplgpdaazFStocksECloneSt
import Derived.Test.YtggjdcijplgpdaazFStocksH1
import Derived.Test.YtggjdcijplgpdaazFStocksH15
import Derived.Shelf.Abstract
import Derived.Deep.QuietTactic
import Derived.BigQuiet
namespace Go.Proofs.Ytggjdcijplgpdaa.H
open Go.RowKit Go.Proofs.YtggjdcijplgpdaaW.PrintWords Go.Proofs.YtggjdcijplgpdaaW.PrintLast Go.Proofs.YtggjdcijplgpdaaW.PrintMore
attribute [local go_sem] max2_int min2_int max_two min_two max_three min_three max_four min_four
set_option linter.unusedVariables false
set_option linter.unusedSimpArgs false
theorem wrap8_id {z : Int} (h0 : -128 ≤ z) (h1 : z < 128) : IntKind.i8.wrap z = z := by
 simp [IntKind.wrap, IntKind.bits, IntKind.signed]
 omega
theorem one_stock (s : S55) (w : World) (base : Nat) (ok : Nat → Prop) : Reps (k55.M w base ok) k55.sz [s] (stC s) := by
 refine ⟨rfl, fun k x hx => ?_⟩
 obtain ⟨hk, rfl⟩ := List.getElem?_eq_some_iff.mp hx
 obtain rfl : k = 0 := by simpa using hk
 exact k55_stM _ _ _ _
theorem size_one (A0 : Option Addr) (c0 : Nat) (p : Int) (w : World) (hr : Kd.C (Kd.int .i64) w A0 1 [p]) (hc : 1 ≤ c0) : Calls Try.prog 75 #[.slice A0 1 c0] w fun e w' => e = .returned (.int .i64 1) ∧ Below w.heap.size w w' :=
 (impl_size_int64.calls A0 c0 [p] 1 w hr hc rfl).mono fun e w' h => ⟨h.1, h.2.below⟩
theorem areWithin_one (A0 : Option Addr) (c0 : Nat) (p : Int) (w : World) (hr : Kd.C (Kd.int .i64) w A0 1 [p]) (hc : 1 ≤ c0) (hp : 0 ≤ p ∧ p ≤ 500) : Calls Try.prog 83 #[.slice A0 1 c0, .int .i64 0, .int .i64 500] w fun e w' => e = .returned (.bool true) ∧ Below w.heap.size w w' :=
 impl_areWithin.calls A0 c0 [p] 0 500 true w hr hc (by unfold impl_areWithin.f; simp [inB_of hp])
set_option maxHeartbeats 8000000 in
set_option maxRecDepth 100000 in
theorem newHouse_calls (w : World) (A0 : Option Addr) (c0 : Nat) (p tub every : Int) (hr : Kd.C (Kd.int .i64) w A0 1 [p]) (hc : 1 ≤ c0) (hp : 0 ≤ p ∧ p ≤ 500) (ht : 0 ≤ tub ∧ tub ≤ 1000) (he : 1 ≤ every ∧ every ≤ 7) :
 Calls Try.prog 24 #[.slice A0 1 c0, .int .i64 tub, .int .i64 every] w fun e w' => ∃ v0 : Value, e = .returned (.tuple #[.agg #[v0, .int .i16 tub, .int .i8 every, .int .i16 0], .int .i64 0]) ∧ Kd.R k55 55 w' w.heap.size (fun _ => True) v0 [freshS p] ∧ Below w.heap.size w w' := by
 have hu32 := Try.underlying32
 have mixed : Try.prog.follows .mixedOrders = true := by kernel_rfl
 have hw1 : IntKind.i16.wrap tub = tub := wrap16_id (by omega) (by omega)
 have hw2 : IntKind.i8.wrap every = every := wrap8_id (by omega) (by omega)
 obtain ⟨adN, eN, hcN⟩ : ∃ ad, A0 = some ad ∧ ∀ w', Below w.heap.size w w' → w'.cell? ad = some (.int .i64 p) := by
  obtain ⟨ad, e, _⟩ := Kd.at_int hr (0 : Int) (by omega) (by omega)
  refine ⟨ad, e, fun w' hw => ?_⟩
  obtain ⟨ad2, e2, h2⟩ := Kd.at_int (Kd.C_below hr hw) (0 : Int) (by omega) (by omega)
  rw [e] at e2
  obtain rfl := Option.some.inj e2
  have e0 : ad.add (0 : Int).toNat = ad := by show ad.add 0 = ad; unfold Addr.add; cases ad with | mk b o i => cases i <;> simp
  rw [e0] at h2
  exact h2
 have HS := Aside0.mk (fun (w' : World) (hb : Below w.heap.size w w') => size_one A0 c0 p w' (Kd.C_below hr hb) hc)
 have HW1 := Aside0.mk (fun (w : World) => impl_within.calls 1 1 4 true w (by rw [within_B]; rfl))
 have HA := Aside0.mk (fun (w' : World) (hb : Below w.heap.size w w') => areWithin_one A0 c0 p w' (Kd.C_below hr hb) hc hp)
 have HW2 := Aside0.mk (fun (w : World) => impl_within.calls tub 0 1000 true w (by rw [within_B, inB_of ht]))
 have HW3 := Aside0.mk (fun (w : World) => impl_within.calls every 1 7 true w (by rw [within_B, inB_of he]))
 have HF := Aside0.mk (fun (w : World) => newStock_calls p hp w)
 have HCN := Aside0.mk hcN
 subst eN
 clear hr hc hp ht he hcN
 go_enter Try.func24, Try.ntmps24
 have ST0 := Aside0.mk True.intro
 go_wp2_with (first
  | (have s_ := ST0; (with_reducible refine gate_dst (N := 6) rfl ?_); refine box_event ?hg (N := 6) ?hd (cs := #[.slice none 0 0, .int .i16 0, .int .i8 0, .int .i16 0]) (t := 32) ?hr ?_; (case hd => rfl); (case hg => rfl); (case hr => first | (go_simp; done) | (go_simp; rfl)); intro gr hg_ w1 hbox hb; have GBR := Aside0.mk (by rw [hg_]; exact Nat.le_refl _ : w.heap.size ≤ gr); have HB := Aside0.mk hb; have BR := Aside0.mk hbox; clear hb hbox hg_; have qBR0 : w1.cell? ⟨gr, 0, none⟩ = some (.slice none 0 0) := (blk_cell BR.out 0).trans rfl; have qBR1 : w1.cell? ⟨gr, 1, none⟩ = some (.int .i16 0) := (blk_cell BR.out 1).trans rfl; have qBR2 : w1.cell? ⟨gr, 2, none⟩ = some (.int .i8 0) := (blk_cell BR.out 2).trans rfl; have qBR3 : w1.cell? ⟨gr, 3, none⟩ = some (.int .i16 0) := (blk_cell BR.out 3).trans rfl; clear ST0 s_; have ST1 := Aside0.mk True.intro)
  | (have s_ := ST1; go_at_call 75; (with_reducible refine (HS.out _ HB.out).mono ?_); rintro e w2 ⟨rfl, hb⟩; replace HB := Aside0.mk (below_step HB.out hb); replace BR := Aside0.mk (blk_below BR.out hb); clear hb; clear qBR0 qBR1 qBR2 qBR3; have qBR0 : w2.cell? ⟨gr, 0, none⟩ = some (.slice none 0 0) := (blk_cell BR.out 0).trans rfl; have qBR1 : w2.cell? ⟨gr, 1, none⟩ = some (.int .i16 0) := (blk_cell BR.out 1).trans rfl; have qBR2 : w2.cell? ⟨gr, 2, none⟩ = some (.int .i8 0) := (blk_cell BR.out 2).trans rfl; have qBR3 : w2.cell? ⟨gr, 3, none⟩ = some (.int .i16 0) := (blk_cell BR.out 3).trans rfl; clear ST1 s_; have ST2 := Aside0.mk True.intro)
  | (have s_ := ST2; go_at_call 72; (with_reducible refine (HW1.out _).mono ?_); rintro e w3 ⟨rfl, hd⟩; have hb := hd.below; replace HB := Aside0.mk (below_step HB.out hb); replace BR := Aside0.mk (blk_below BR.out hb); clear hb hd; clear qBR0 qBR1 qBR2 qBR3; have qBR0 : w3.cell? ⟨gr, 0, none⟩ = some (.slice none 0 0) := (blk_cell BR.out 0).trans rfl; have qBR1 : w3.cell? ⟨gr, 1, none⟩ = some (.int .i16 0) := (blk_cell BR.out 1).trans rfl; have qBR2 : w3.cell? ⟨gr, 2, none⟩ = some (.int .i8 0) := (blk_cell BR.out 2).trans rfl; have qBR3 : w3.cell? ⟨gr, 3, none⟩ = some (.int .i16 0) := (blk_cell BR.out 3).trans rfl; clear ST2 s_; have ST3 := Aside0.mk True.intro)
  | (have s_ := ST3; go_at_call 83; (with_reducible refine (HA.out _ HB.out).mono ?_); rintro e w4 ⟨rfl, hb⟩; replace HB := Aside0.mk (below_step HB.out hb); replace BR := Aside0.mk (blk_below BR.out hb); clear hb; clear qBR0 qBR1 qBR2 qBR3; have qBR0 : w4.cell? ⟨gr, 0, none⟩ = some (.slice none 0 0) := (blk_cell BR.out 0).trans rfl; have qBR1 : w4.cell? ⟨gr, 1, none⟩ = some (.int .i16 0) := (blk_cell BR.out 1).trans rfl; have qBR2 : w4.cell? ⟨gr, 2, none⟩ = some (.int .i8 0) := (blk_cell BR.out 2).trans rfl; have qBR3 : w4.cell? ⟨gr, 3, none⟩ = some (.int .i16 0) := (blk_cell BR.out 3).trans rfl; clear ST3 s_; have ST4 := Aside0.mk True.intro)
  | (have s_ := ST4; go_at_call 72; (with_reducible refine (HW2.out _).mono ?_); rintro e w5 ⟨rfl, hd⟩; have hb := hd.below; replace HB := Aside0.mk (below_step HB.out hb); replace BR := Aside0.mk (blk_below BR.out hb); clear hb hd; clear qBR0 qBR1 qBR2 qBR3; have qBR0 : w5.cell? ⟨gr, 0, none⟩ = some (.slice none 0 0) := (blk_cell BR.out 0).trans rfl; have qBR1 : w5.cell? ⟨gr, 1, none⟩ = some (.int .i16 0) := (blk_cell BR.out 1).trans rfl; have qBR2 : w5.cell? ⟨gr, 2, none⟩ = some (.int .i8 0) := (blk_cell BR.out 2).trans rfl; have qBR3 : w5.cell? ⟨gr, 3, none⟩ = some (.int .i16 0) := (blk_cell BR.out 3).trans rfl; clear ST4 s_; have ST5 := Aside0.mk True.intro)
  | (have s_ := ST5; go_at_call 72; (with_reducible refine (HW3.out _).mono ?_); rintro e w6 ⟨rfl, hd⟩; have hb := hd.below; replace HB := Aside0.mk (below_step HB.out hb); replace BR := Aside0.mk (blk_below BR.out hb); clear hb hd; clear qBR0 qBR1 qBR2 qBR3; have qBR0 : w6.cell? ⟨gr, 0, none⟩ = some (.slice none 0 0) := (blk_cell BR.out 0).trans rfl; have qBR1 : w6.cell? ⟨gr, 1, none⟩ = some (.int .i16 0) := (blk_cell BR.out 1).trans rfl; have qBR2 : w6.cell? ⟨gr, 2, none⟩ = some (.int .i8 0) := (blk_cell BR.out 2).trans rfl; have qBR3 : w6.cell? ⟨gr, 3, none⟩ = some (.int .i16 0) := (blk_cell BR.out 3).trans rfl; clear ST5 s_; have ST6 := Aside0.mk True.intro)
  | (have s_ := ST6; (with_reducible refine gate_dst (N := 8) rfl ?_); refine box_event ?hg (N := 8) ?hd (cs := #[.slice none 0 0, .int .i16 0, .int .i8 0, .int .i16 0]) (t := 32) ?hr ?_; (case hd => rfl); (case hg => rfl); (case hr => first | (go_simp; done) | (go_simp; rfl)); intro go hg_ w8 hbox hb; have GBO := Aside0.mk (by rw [hg_]; exact HB.out.size : w.heap.size ≤ go); have NBR_BO := Aside0.mk (by rw [hg_]; exact Nat.ne_of_lt (blk_lt BR.out) : gr ≠ go); replace HB := Aside0.mk (below_step HB.out hb); replace BR := Aside0.mk (blk_below BR.out hb); have BO := Aside0.mk hbox; clear hb hbox hg_; clear qBR0 qBR1 qBR2 qBR3; have qBR0 : w8.cell? ⟨gr, 0, none⟩ = some (.slice none 0 0) := (blk_cell BR.out 0).trans rfl; have qBR1 : w8.cell? ⟨gr, 1, none⟩ = some (.int .i16 0) := (blk_cell BR.out 1).trans rfl; have qBR2 : w8.cell? ⟨gr, 2, none⟩ = some (.int .i8 0) := (blk_cell BR.out 2).trans rfl; have qBR3 : w8.cell? ⟨gr, 3, none⟩ = some (.int .i16 0) := (blk_cell BR.out 3).trans rfl; have qBO0 : w8.cell? ⟨go, 0, none⟩ = some (.slice none 0 0) := (blk_cell BO.out 0).trans rfl; have qBO1 : w8.cell? ⟨go, 1, none⟩ = some (.int .i16 0) := (blk_cell BO.out 1).trans rfl; have qBO2 : w8.cell? ⟨go, 2, none⟩ = some (.int .i8 0) := (blk_cell BO.out 2).trans rfl; have qBO3 : w8.cell? ⟨go, 3, none⟩ = some (.int .i16 0) := (blk_cell BO.out 3).trans rfl; have fBO0 : w8.frozen? ⟨go, 0, none⟩ = false := blk_frozen BO.out 0; have fBO1 : w8.frozen? ⟨go, 1, none⟩ = false := blk_frozen BO.out 1; have fBO2 : w8.frozen? ⟨go, 2, none⟩ = false := blk_frozen BO.out 2; have fBO3 : w8.frozen? ⟨go, 3, none⟩ = false := blk_frozen BO.out 3; clear ST6 s_; have ST7 := Aside0.mk True.intro)
  | (have s_ := ST7; (with_reducible refine gate_store (t := 32) (p := 8) rfl ?_); refine store_event (t := 32) (p := 8) (v := ?vo_w9) (w1 := ((((w8.setCell ⟨go, 0, none⟩ (.slice none 0 0)).setCell ⟨go, 1, none⟩ (.int .i16 tub)).setCell ⟨go, 2, none⟩ (.int .i8 every)).setCell ⟨go, 3, none⟩ (.int .i16 0))) ?hg ?ho ?hn ?hr ?_; (case ho => rfl); (case hg => rfl); (case hn => rfl); (case hr => first | (go_simp; done) | (go_simp; rfl)); intro w9 hw; have hg : w8.grownBy w9 (some go) := (by rw [hw]; exact put4_grown True.intro True.intro); have hnew : w9.heap[go]? = some (.cells #[.slice none 0 0, .int .i16 tub, .int .i8 every, .int .i16 0] 32 (0, 0)) := (by rw [hw]; exact put4_blk BO.out); clear hw; replace HB := Aside0.mk (below_grown HB.out hg (fun k_ e_ => by injection e_ with e_; subst e_; exact GBO.out)); replace BR := Aside0.mk (blk_grown BR.out hg (fun e_ => by injection e_ with e_; exact NBR_BO.out e_)); replace BO := Aside0.mk (hnew); clear hg hnew; clear qBR0 qBR1 qBR2 qBR3 qBO0 qBO1 qBO2 qBO3 fBO0 fBO1 fBO2 fBO3; have qBR0 : w9.cell? ⟨gr, 0, none⟩ = some (.slice none 0 0) := (blk_cell BR.out 0).trans rfl; have qBR1 : w9.cell? ⟨gr, 1, none⟩ = some (.int .i16 0) := (blk_cell BR.out 1).trans rfl; have qBR2 : w9.cell? ⟨gr, 2, none⟩ = some (.int .i8 0) := (blk_cell BR.out 2).trans rfl; have qBR3 : w9.cell? ⟨gr, 3, none⟩ = some (.int .i16 0) := (blk_cell BR.out 3).trans rfl; have qBO0 : w9.cell? ⟨go, 0, none⟩ = some (.slice none 0 0) := (blk_cell BO.out 0).trans rfl; have qBO1 : w9.cell? ⟨go, 1, none⟩ = some (.int .i16 tub) := (blk_cell BO.out 1).trans rfl; have qBO2 : w9.cell? ⟨go, 2, none⟩ = some (.int .i8 every) := (blk_cell BO.out 2).trans rfl; have qBO3 : w9.cell? ⟨go, 3, none⟩ = some (.int .i16 0) := (blk_cell BO.out 3).trans rfl; clear ST7 s_; have ST8 := Aside0.mk True.intro))
 clear qBR0 qBR1 qBR2 qBR3 qBO0 qBO1 qBO2 qBO3
 have HV := Aside0.mk (show Kd.R k55 55 w9 w.heap.size (fun _ => True) (.slice none 0 0) [] from Kd.R_nil _ _ _ _ _)
 go_loopg [38] 1 (fun gk v38 wr => ∃ (k : Nat) (vk : Value), k ≤ 1 ∧ 1 - k ≤ gk ∧ v38 = .int .i64 k ∧ Aside0 (wr.heap[go]? = some (.cells #[vk, .int .i16 tub, .int .i8 every, .int .i16 0] 32 (0, 0))) ∧ Aside0 (Kd.R k55 55 wr w.heap.size (fun _ => True) vk (List.replicate k (freshS p))) ∧ Aside0 (wr.heap[gr]? = some (.cells #[.slice none 0 0, .int .i16 0, .int .i8 0, .int .i16 0] 32 (0, 0))) ∧ Aside0 (Below w.heap.size w wr))
 case atStart => exact ⟨0, _, by omega, by omega, rfl, BO, HV, BR, HB⟩
 case round =>
  clear BO HV BR HB
  obtain ⟨k, vk, hk, hgk, rfl, BO, HV, BR, HB⟩ := hrel
  rcases (show k = 0 ∨ k = 1 by omega) with rfl | rfl
  · obtain ⟨Ak, ck, ek⟩ := Kd.R_slice HV.out
    subst ek
    have cN := HCN.out _ HB.out
    have HV := Aside0.mk (show Kd.R k55 55 wr w.heap.size (fun _ => True) (.slice Ak 0 ck) [] from HV.out)
    have BO := Aside0.mk (show wr.heap[go]? = some (.cells #[.slice Ak 0 ck, .int .i16 tub, .int .i8 every, .int .i16 0] 32 (0, 0)) from BO.out)
    have c0_ : wr.cell? ⟨go, 0, none⟩ = some (.slice Ak 0 ck) := (blk_cell BO.out 0).trans rfl
    go_wp2
    clear cN
    refine start_ (n := 8) (S := fun w' => w'.cell? ⟨go, 0, none⟩ = some (.slice Ak 0 ck)) (ds := [7]) #[false, false, false, false, false, false, false, false] (by kernel_rfl) rfl rfl (c0_) (fun hHeld => ?_)
    have a_ := Aside0.mk (below_drew1 HB.out)
    have b_ := Aside0.mk (blk_drew BO.out)
    have c_ := Aside0.mk (blk_drew BR.out)
    have d_ := Aside0.mk (Kd.R_drew HV.out)
    clear HB BO BR HV c0_
    generalize wr.drew = wd at a_ b_ c_ d_ hHeld ⊢
    have HB := a_
    have BO := b_
    have BR := c_
    have HV := d_
    clear a_ b_ c_ d_
    have c0_ : wd.cell? ⟨go, 0, none⟩ = some (.slice Ak 0 ck) := (blk_cell BO.out 0).trans rfl
    refine pure_ (i := 0) (N := some 42) (v := ?_) (a' := ?_) #[true, false, false, false, false, false, false, false] rfl rfl (by kernel_rfl) (fun _ _ _ h => h) (Or.inl ⟨by rfl, ?_⟩) ?_ ?_
    rotate_left
    · intro w'
      go_simp
      with_reducible rfl
    rotate_left
    · exact putB
    refine pure_ (i := 2) (N := some 44) (v := ?_) (a' := ?_) #[true, false, true, false, false, false, false, false] rfl rfl (by kernel_rfl) (fun _ _ _ h => h) (Or.inl ⟨by rfl, ?_⟩) ?_ ?_
    rotate_left
    · intro w'
      go_simp
      with_reducible rfl
    rotate_left
    · exact putB
    refine take_ (i := 1) (N := some 43) (v := ?_) (a' := ?_) #[true, true, true, false, false, false, false, false] rfl rfl (by kernel_rfl) (fun _ _ _ h => h) (Or.inl ⟨by rfl, ?_⟩) hHeld ?_ ?_
    rotate_left
    · intro w' s0
      go_simp
      with_reducible rfl
    rotate_left
    · exact putB
    refine one_ (i := 3) (N := some 45) #[true, true, true, true, false, false, false, false] rfl rfl (by kernel_rfl) (by decide) (fun K hK => ?_)
    refine goes_ Try.func77 (by kernel_rfl) rfl #[.int .i64 p] (by rfl) rfl rfl (by (try simp only [List.map_toArray, List.map_cons, List.map_nil]); first | done | rfl) ?_
    (with_reducible refine (HF.out _).mono ?_)
    rintro e wa ⟨rfl, hb⟩
    refine ⟨_, rfl, ?_⟩
    have a_ := Aside0.mk (below_step HB.out hb)
    have b_ := Aside0.mk (blk_below BO.out hb)
    have c_ := Aside0.mk (blk_below BR.out hb)
    have d_ := Aside0.mk (Kd.R_below HV.out hb)
    clear HB BO BR HV hb c0_
    have HB := a_
    have BO := b_
    have BR := c_
    have HV := d_
    clear a_ b_ c_ d_
    have c0_ : wa.cell? ⟨go, 0, none⟩ = some (.slice Ak 0 ck) := (blk_cell BO.out 0).trans rfl
    refine hK.out _ _ (c0_) (fun hHeld => ?_)
    clear hK K
    refine norm_ (a' := ?_) ?_ ?_
    rotate_left
    · show Act.put _ (some 45) _ = _
      exact putB
    refine one_ (i := 4) (N := some 46) #[true, true, true, true, true, false, false, false] rfl rfl (by kernel_rfl) (by decide) (fun K hK => ?_)
    refine Kd.R_lit_step k55 _ 55 ?hg (N := 46) ?hd (xs := ([freshS p] : List S55)) (inner := stC (freshS p)) (ok := fun _ => True) (okp := fun _ => True) ?hr ?hp (fun _ hk => hk) trivial (Below.refl _ _) (Nat.le_refl _) (by simp) ?_; (case hd => rfl); (case hg => rfl); (case hr => exact build_stock (by rfl) (freshS p) (by rfl)); (case hp => exact one_stock _ _ _ _)
    intro vl wb ho_ hb hg_ hnew_
    clear hg_ hnew_
    have HL := Aside0.mk (Kd.R_lower ho_ HB.out.size)
    have d_ := Aside0.mk (Kd.R_elder' HV.out (Kd.R_base ho_) hb)
    have a_ := Aside0.mk (below_step HB.out hb)
    have b_ := Aside0.mk (blk_below BO.out hb)
    have c_ := Aside0.mk (blk_below BR.out hb)
    clear HB BO BR HV hb ho_ c0_
    have HB := a_
    have BO := b_
    have BR := c_
    have HV := d_
    clear a_ b_ c_ d_
    have c0_ : wb.cell? ⟨go, 0, none⟩ = some (.slice Ak 0 ck) := (blk_cell BO.out 0).trans rfl
    refine hK.out _ _ (c0_) (fun hHeld => ?_)
    clear hK K
    refine norm_ (a' := ?_) ?_ ?_
    rotate_left
    · show Act.put _ (some 46) _ = _
      exact putB
    refine one_ (i := 5) (N := some 47) #[true, true, true, true, true, true, false, false] rfl rfl (by kernel_rfl) (by decide) (fun K hK => ?_)
    obtain ⟨Al, cl, el⟩ := Kd.R_slice HL.out
    subst el
    refine Kd.R_append_rows_step k55 (Rr := k55.K wb) (w0 := wb) w.heap.size (by rfl) (.tmp 43) (.tmp 46) 30 55 _ _ rfl Try.underlying30 infoSt rfl (by decide) (by omega) (.slice Ak 0 ck) ([] : List S55) [freshS p] _ _ _ (fun k_ => some k_ ≠ (.slice Al ([freshS p] : List S55).length cl : Value).ownBlock) (fun k_ => some k_ ≠ (.slice Al ([freshS p] : List S55).length cl : Value).ownBlock ∧ some k_ ≠ (.slice Ak 0 ck : Value).ownBlock) rfl rfl ?aO ?aR ?aK (fun _ h => h) ?aF ?aB ?aS ?aL ?_
    (case aR => exact (Kd.R_reads' HL.out).2.2)
    (case aK => exact (fun x cs h => by have e := k55_cells (show k55.K wb x cs from h); subst e; exact k55_stM _ _ _ _))
    (case aB => exact Below.refl _ _)
    (case aF => exact (fun k_ hk => Kd.fresh' (Kd.R_lt HL.out) k_ hk))
    (case aO => exact Kd.R_mono HV.out (fun _ hk => hk.2))
    (case aS => exact HB.out.size)
    (case aL => simp only [List.length_nil, List.length_singleton]; omega)
    intro v9 wc ho hb hg hat
    have HN := Aside0.mk (Kd.R_mono ho (fun _ _ => trivial) : Kd.R k55 55 wc w.heap.size (fun _ => True) v9 [freshS p])
    have a_ := Aside0.mk (HB.out.grown hg HB.out.size (fun k_ e_ => Kd.R_base HV.out k_ e_))
    have b_ := Aside0.mk (blk_grown BO.out hg (Kd.R_ne HV.out BO.out (by decide)))
    have c_ := Aside0.mk (blk_grown BR.out hg (Kd.R_ne HV.out BR.out (by decide)))
    clear HB BO BR HV HL ho hb hg hat c0_
    have HB := a_
    have BO := b_
    have BR := c_
    clear a_ b_ c_
    obtain ⟨A9, c9, e9⟩ := Kd.R_slice HN.out
    subst e9
    have c0_ : wc.cell? ⟨go, 0, none⟩ = some (.slice Ak 0 ck) := (blk_cell BO.out 0).trans rfl
    have f0_ : wc.frozen? ⟨go, 0, none⟩ = false := blk_frozen BO.out 0
    refine hK.out _ _ (c0_) (fun hHeld => ?_)
    clear hK K
    refine norm_ (a' := ?_) ?_ ?_
    rotate_left
    · show Act.put _ (some 47) _ = _
      exact putB
    refine pure_ (i := 6) (N := some 48) (v := ?_) (a' := ?_) #[true, true, true, true, true, true, true, false] rfl rfl (by kernel_rfl) (fun _ _ _ h => h) (Or.inl ⟨by rfl, ?_⟩) ?_ ?_
    rotate_left
    · intro w'
      go_simp
      with_reducible rfl
    rotate_left
    · exact putB
    refine last_ (i := 7) (N := none) #[true, true, true, true, true, true, true, true] rfl rfl (by kernel_rfl) (by decide) (fun K hK => ?_)
    refine skip_ (w1 := ?_) (by rfl) rfl ?_ ?_
    rotate_left
    · go_simp
      rfl
    refine hK.out _ _ ?_
    clear hK K
    refine done_ (by kernel_rfl) ?_
    have BO2 := Aside0.mk (blk_put BO.out 0 (.slice A9 ([freshS p] : List S55).length c9) rfl)
    have HN2 := Aside0.mk (Kd.R_mono (Kd.R_far (p := ⟨go, 0, none⟩) (Kd.R_types HN.out BO.out (by decide)) (fun _ hk => hk.2) (.slice A9 ([freshS p] : List S55).length c9)) (fun _ hk => hk.1))
    have BR2 := Aside0.mk (blk_far (p := ⟨go, 0, none⟩) BR.out NBR_BO.out (.slice A9 ([freshS p] : List S55).length c9))
    have HB2 := Aside0.mk (below_set (j := 0) (v := .slice A9 ([freshS p] : List S55).length c9) HB.out GBO.out)
    clear BO HN BR HB hHeld c0_ f0_
    go_wp2
    go_roundg 0
    case measure => omega
    case rel => exact ⟨1, _, by omega, by omega, by first | rfl | go_num, BO2, HN2, BR2, HB2⟩
  · have d0 : wr.cell? ⟨go, 0, none⟩ = some vk := (blk_cell BO.out 0).trans rfl
    obtain ⟨Ak, ck, ek⟩ := Kd.R_slice HV.out
    subst ek
    have d1 : wr.cell? ⟨go, 1, none⟩ = some (.int .i16 tub) := (blk_cell BO.out 1).trans rfl
    have d2 : wr.cell? ⟨go, 2, none⟩ = some (.int .i8 every) := (blk_cell BO.out 2).trans rfl
    have d3 : wr.cell? ⟨go, 3, none⟩ = some (.int .i16 0) := (blk_cell BO.out 3).trans rfl
    have e0 : wr.cell? ⟨gr, 0, none⟩ = some (.slice none 0 0) := (blk_cell BR.out 0).trans rfl
    have f0 : wr.frozen? ⟨gr, 0, none⟩ = false := blk_frozen BR.out 0
    have e1 : wr.cell? ⟨gr, 1, none⟩ = some (.int .i16 0) := (blk_cell BR.out 1).trans rfl
    have f1 : wr.frozen? ⟨gr, 1, none⟩ = false := blk_frozen BR.out 1
    have e2 : wr.cell? ⟨gr, 2, none⟩ = some (.int .i8 0) := (blk_cell BR.out 2).trans rfl
    have f2 : wr.frozen? ⟨gr, 2, none⟩ = false := blk_frozen BR.out 2
    have e3 : wr.cell? ⟨gr, 3, none⟩ = some (.int .i16 0) := (blk_cell BR.out 3).trans rfl
    have f3 : wr.frozen? ⟨gr, 3, none⟩ = false := blk_frozen BR.out 3
    go_wp2
    refine bodyPost_ret (results_ct rfl _ _ gr 32 #[.slice Ak (List.replicate 1 (freshS p)).length ck, .int .i16 tub, .int .i8 every, .int .i16 0] (0, 0) _ rfl (put4_blk BR.out) Try.underlying32 rfl (by kernel_rfl)) rfl ?_
    exact ⟨_, rfl, Kd.R_mono (Kd.R_move (Kd.R_types HV.out BR.out (by decide)) (fun k_ hk => put4_block k_ hk.2)) (fun _ _ => trivial), put4_below HB.out GBR.out⟩
set_option maxHeartbeats 8000000 in
set_option maxRecDepth 100000 in
theorem specNewHouse_calls (w : World) (A0 : Option Addr) (c0 : Nat) (p tub every : Int) (hr : Kd.C (Kd.int .i64) w A0 1 [p]) (hc : 1 ≤ c0) (hp : 0 ≤ p ∧ p ≤ 500) (ht : 0 ≤ tub ∧ tub ≤ 1000) (he : 1 ≤ every ∧ every ≤ 7) :
 Calls Try.prog 25 #[.slice A0 1 c0, .int .i64 tub, .int .i64 every] w fun e w' => ∃ v0 : Value, e = .returned (.tuple #[.agg #[v0, .int .i16 tub, .int .i8 every, .int .i16 0], .int .i64 0]) ∧ Kd.R k55 55 w' w.heap.size (fun _ => True) v0 [freshS p] ∧ Below w.heap.size w w' := by
 have hu32 := Try.underlying32
 have mixed : Try.prog.follows .mixedOrders = true := by kernel_rfl
 have hw1 : IntKind.i16.wrap tub = tub := wrap16_id (by omega) (by omega)
 have hw2 : IntKind.i8.wrap every = every := wrap8_id (by omega) (by omega)
 obtain ⟨adN, eN, hcN⟩ : ∃ ad, A0 = some ad ∧ ∀ w', Below w.heap.size w w' → w'.cell? ad = some (.int .i64 p) := by
  obtain ⟨ad, e, _⟩ := Kd.at_int hr (0 : Int) (by omega) (by omega)
  refine ⟨ad, e, fun w' hw => ?_⟩
  obtain ⟨ad2, e2, h2⟩ := Kd.at_int (Kd.C_below hr hw) (0 : Int) (by omega) (by omega)
  rw [e] at e2
  obtain rfl := Option.some.inj e2
  have e0 : ad.add (0 : Int).toNat = ad := by show ad.add 0 = ad; unfold Addr.add; cases ad with | mk b o i => cases i <;> simp
  rw [e0] at h2
  exact h2
 have HI := Aside0.mk (fun (w : World) => spec_l00In.calls 1 1 4 true w (by rw [l00In_B]; rfl))
 have HT := Aside0.mk (fun (w : World) => spec_l05Tub.calls tub every true w (by rw [l05Tub_B, inB_of ht, inB_of he]; rfl))
 have HC := Aside0.mk (fun (w : World) => spec_l05Count.calls p true w (by rw [l05Count_B, inB_of hp]))
 have HF := Aside0.mk (fun (w : World) => l05Fresh_calls p hp w)
 have HCN := Aside0.mk hcN
 subst eN
 clear hr hc hp ht he hcN
 go_enter Try.func25, Try.ntmps25
 have ST0 := Aside0.mk True.intro
 go_wp2_with (first
  | (have s_ := ST0; (with_reducible refine gate_dst (N := 6) rfl ?_); refine box_event ?hg (N := 6) ?hd (cs := #[.slice none 0 0, .int .i16 0, .int .i8 0, .int .i16 0]) (t := 32) ?hr ?_; (case hd => rfl); (case hg => rfl); (case hr => first | (go_simp; done) | (go_simp; rfl)); intro gr hg_ w1 hbox hb; have GBR := Aside0.mk (by rw [hg_]; exact Nat.le_refl _ : w.heap.size ≤ gr); have HB := Aside0.mk hb; have BR := Aside0.mk hbox; clear hb hbox hg_; have qBR0 : w1.cell? ⟨gr, 0, none⟩ = some (.slice none 0 0) := (blk_cell BR.out 0).trans rfl; have qBR1 : w1.cell? ⟨gr, 1, none⟩ = some (.int .i16 0) := (blk_cell BR.out 1).trans rfl; have qBR2 : w1.cell? ⟨gr, 2, none⟩ = some (.int .i8 0) := (blk_cell BR.out 2).trans rfl; have qBR3 : w1.cell? ⟨gr, 3, none⟩ = some (.int .i16 0) := (blk_cell BR.out 3).trans rfl; clear ST0 s_; have ST1 := Aside0.mk True.intro)
  | (have s_ := ST1; go_at_call 79; (with_reducible refine (HI.out _).mono ?_); rintro e w2 ⟨rfl, hd⟩; have hb := hd.below; replace HB := Aside0.mk (below_step HB.out hb); replace BR := Aside0.mk (blk_below BR.out hb); clear hb hd; clear qBR0 qBR1 qBR2 qBR3; have qBR0 : w2.cell? ⟨gr, 0, none⟩ = some (.slice none 0 0) := (blk_cell BR.out 0).trans rfl; have qBR1 : w2.cell? ⟨gr, 1, none⟩ = some (.int .i16 0) := (blk_cell BR.out 1).trans rfl; have qBR2 : w2.cell? ⟨gr, 2, none⟩ = some (.int .i8 0) := (blk_cell BR.out 2).trans rfl; have qBR3 : w2.cell? ⟨gr, 3, none⟩ = some (.int .i16 0) := (blk_cell BR.out 3).trans rfl; clear ST1 s_; have ST2 := Aside0.mk True.intro)
  | (have s_ := ST2; go_at_call 80; (with_reducible refine (HT.out _).mono ?_); rintro e w3 ⟨rfl, hd⟩; have hb := hd.below; replace HB := Aside0.mk (below_step HB.out hb); replace BR := Aside0.mk (blk_below BR.out hb); clear hb hd; clear qBR0 qBR1 qBR2 qBR3; have qBR0 : w3.cell? ⟨gr, 0, none⟩ = some (.slice none 0 0) := (blk_cell BR.out 0).trans rfl; have qBR1 : w3.cell? ⟨gr, 1, none⟩ = some (.int .i16 0) := (blk_cell BR.out 1).trans rfl; have qBR2 : w3.cell? ⟨gr, 2, none⟩ = some (.int .i8 0) := (blk_cell BR.out 2).trans rfl; have qBR3 : w3.cell? ⟨gr, 3, none⟩ = some (.int .i16 0) := (blk_cell BR.out 3).trans rfl; clear ST2 s_; have ST3 := Aside0.mk True.intro))
 clear qBR0 qBR1 qBR2 qBR3
 go_loopg [8, 9] 1 (fun gk v8 v9 wr => ∃ (i : Nat), i ≤ 1 ∧ 1 - i ≤ gk ∧ v8 = .bool true ∧ v9 = .int .i64 i ∧ Aside0 (wr.heap[gr]? = some (.cells #[.slice none 0 0, .int .i16 0, .int .i8 0, .int .i16 0] 32 (0, 0))) ∧ Aside0 (Below w.heap.size w wr))
 case atStart => exact ⟨0, by omega, by omega, rfl, rfl, BR, HB⟩
 case round =>
  clear BR HB
  obtain ⟨i, hi, hgk, rfl, rfl, BR, HB⟩ := hrel
  rcases (show i = 0 ∨ i = 1 by omega) with rfl | rfl
  · have cN := HCN.out _ HB.out
    go_wp2_with (go_at_call 81; (with_reducible refine (HC.out _).mono ?_); rintro e w4 ⟨rfl, hd⟩; have a_ := Aside0.mk (below_step HB.out hd.below); have b_ := Aside0.mk (blk_below BR.out hd.below); clear HB BR hd cN; have HB := a_; have BR := b_; clear a_ b_)
    go_roundg 0
    case measure => omega
    case rel => exact ⟨1, by omega, by omega, rfl, by first | rfl | go_num, BR, HB⟩
  · have ST3 := Aside0.mk True.intro
    go_wp2_with (first
     | (have s_ := ST3; (with_reducible refine gate_dst (N := 10) rfl ?_); refine box_event ?hg (N := 10) ?hd (cs := #[.slice none 0 0, .int .i16 0, .int .i8 0, .int .i16 0]) (t := 32) ?hr ?_; (case hd => rfl); (case hg => rfl); (case hr => first | (go_simp; done) | (go_simp; rfl)); intro go hg_ w8 hbox hb; have GBO := Aside0.mk (by rw [hg_]; exact HB.out.size : w.heap.size ≤ go); have NBR_BO := Aside0.mk (by rw [hg_]; exact Nat.ne_of_lt (blk_lt BR.out) : gr ≠ go); replace HB := Aside0.mk (below_step HB.out hb); replace BR := Aside0.mk (blk_below BR.out hb); have BO := Aside0.mk hbox; clear hb hbox hg_; have qBR0 : w8.cell? ⟨gr, 0, none⟩ = some (.slice none 0 0) := (blk_cell BR.out 0).trans rfl; have qBR1 : w8.cell? ⟨gr, 1, none⟩ = some (.int .i16 0) := (blk_cell BR.out 1).trans rfl; have qBR2 : w8.cell? ⟨gr, 2, none⟩ = some (.int .i8 0) := (blk_cell BR.out 2).trans rfl; have qBR3 : w8.cell? ⟨gr, 3, none⟩ = some (.int .i16 0) := (blk_cell BR.out 3).trans rfl; have qBO0 : w8.cell? ⟨go, 0, none⟩ = some (.slice none 0 0) := (blk_cell BO.out 0).trans rfl; have qBO1 : w8.cell? ⟨go, 1, none⟩ = some (.int .i16 0) := (blk_cell BO.out 1).trans rfl; have qBO2 : w8.cell? ⟨go, 2, none⟩ = some (.int .i8 0) := (blk_cell BO.out 2).trans rfl; have qBO3 : w8.cell? ⟨go, 3, none⟩ = some (.int .i16 0) := (blk_cell BO.out 3).trans rfl; have fBO0 : w8.frozen? ⟨go, 0, none⟩ = false := blk_frozen BO.out 0; have fBO1 : w8.frozen? ⟨go, 1, none⟩ = false := blk_frozen BO.out 1; have fBO2 : w8.frozen? ⟨go, 2, none⟩ = false := blk_frozen BO.out 2; have fBO3 : w8.frozen? ⟨go, 3, none⟩ = false := blk_frozen BO.out 3; clear ST3 s_; have ST4 := Aside0.mk True.intro)
     | (have s_ := ST4; (with_reducible refine gate_store (t := 32) (p := 10) rfl ?_); refine store_event (t := 32) (p := 10) (v := ?vo_w9) (w1 := ((((w8.setCell ⟨go, 0, none⟩ (.slice none 0 0)).setCell ⟨go, 1, none⟩ (.int .i16 tub)).setCell ⟨go, 2, none⟩ (.int .i8 every)).setCell ⟨go, 3, none⟩ (.int .i16 0))) ?hg ?ho ?hn ?hr ?_; (case ho => rfl); (case hg => rfl); (case hn => rfl); (case hr => first | (go_simp; done) | (go_simp; rfl)); intro w9 hw; have hg : w8.grownBy w9 (some go) := (by rw [hw]; exact put4_grown True.intro True.intro); have hnew : w9.heap[go]? = some (.cells #[.slice none 0 0, .int .i16 tub, .int .i8 every, .int .i16 0] 32 (0, 0)) := (by rw [hw]; exact put4_blk BO.out); clear hw; replace HB := Aside0.mk (below_grown HB.out hg (fun k_ e_ => by injection e_ with e_; subst e_; exact GBO.out)); replace BR := Aside0.mk (blk_grown BR.out hg (fun e_ => by injection e_ with e_; exact NBR_BO.out e_)); replace BO := Aside0.mk (hnew); clear hg hnew; clear qBR0 qBR1 qBR2 qBR3 qBO0 qBO1 qBO2 qBO3 fBO0 fBO1 fBO2 fBO3; have qBR0 : w9.cell? ⟨gr, 0, none⟩ = some (.slice none 0 0) := (blk_cell BR.out 0).trans rfl; have qBR1 : w9.cell? ⟨gr, 1, none⟩ = some (.int .i16 0) := (blk_cell BR.out 1).trans rfl; have qBR2 : w9.cell? ⟨gr, 2, none⟩ = some (.int .i8 0) := (blk_cell BR.out 2).trans rfl; have qBR3 : w9.cell? ⟨gr, 3, none⟩ = some (.int .i16 0) := (blk_cell BR.out 3).trans rfl; have qBO0 : w9.cell? ⟨go, 0, none⟩ = some (.slice none 0 0) := (blk_cell BO.out 0).trans rfl; have qBO1 : w9.cell? ⟨go, 1, none⟩ = some (.int .i16 tub) := (blk_cell BO.out 1).trans rfl; have qBO2 : w9.cell? ⟨go, 2, none⟩ = some (.int .i8 every) := (blk_cell BO.out 2).trans rfl; have qBO3 : w9.cell? ⟨go, 3, none⟩ = some (.int .i16 0) := (blk_cell BO.out 3).trans rfl; clear ST4 s_; have ST5 := Aside0.mk True.intro))
    clear qBR0 qBR1 qBR2 qBR3 qBO0 qBO1 qBO2 qBO3
    have HV := Aside0.mk (show Kd.R k55 55 w9 w.heap.size (fun _ => True) (.slice none 0 0) [] from Kd.R_nil _ _ _ _ _)
    go_loopg [11] 1 (fun gk v38 wr => ∃ (k : Nat) (vk : Value), k ≤ 1 ∧ 1 - k ≤ gk ∧ v38 = .int .i64 k ∧ Aside0 (wr.heap[go]? = some (.cells #[vk, .int .i16 tub, .int .i8 every, .int .i16 0] 32 (0, 0))) ∧ Aside0 (Kd.R k55 55 wr w.heap.size (fun _ => True) vk (List.replicate k (freshS p))) ∧ Aside0 (wr.heap[gr]? = some (.cells #[.slice none 0 0, .int .i16 0, .int .i8 0, .int .i16 0] 32 (0, 0))) ∧ Aside0 (Below w.heap.size w wr))
    case atStart => exact ⟨0, _, by omega, by omega, rfl, BO, HV, BR, HB⟩
    case round =>
     clear BO HV BR HB
     obtain ⟨k, vk, hk, hgk, rfl, BO, HV, BR, HB⟩ := hrel
     rcases (show k = 0 ∨ k = 1 by omega) with rfl | rfl
     · obtain ⟨Ak, ck, ek⟩ := Kd.R_slice HV.out
       subst ek
       have cN := HCN.out _ HB.out
       have HV := Aside0.mk (show Kd.R k55 55 wr w.heap.size (fun _ => True) (.slice Ak 0 ck) [] from HV.out)
       have BO := Aside0.mk (show wr.heap[go]? = some (.cells #[.slice Ak 0 ck, .int .i16 tub, .int .i8 every, .int .i16 0] 32 (0, 0)) from BO.out)
       have c0_ : wr.cell? ⟨go, 0, none⟩ = some (.slice Ak 0 ck) := (blk_cell BO.out 0).trans rfl
       go_wp2
       refine start_ (n := 11) (S := fun w' => w'.cell? ⟨go, 0, none⟩ = some (.slice Ak 0 ck) ∧ w'.cell? adN = some (.int .i64 p)) (ds := [10]) #[false, false, false, false, false, false, false, false, false, false, false] (by kernel_rfl) rfl rfl ⟨c0_, cN⟩ (fun hHeld => ?_)
       have a_ := Aside0.mk (below_drew1 HB.out)
       have b_ := Aside0.mk (blk_drew BO.out)
       have c_ := Aside0.mk (blk_drew BR.out)
       have d_ := Aside0.mk (Kd.R_drew HV.out)
       clear HB BO BR HV c0_ cN
       generalize wr.drew = wd at a_ b_ c_ d_ hHeld ⊢
       have HB := a_
       have BO := b_
       have BR := c_
       have HV := d_
       clear a_ b_ c_ d_
       have c0_ : wd.cell? ⟨go, 0, none⟩ = some (.slice Ak 0 ck) := (blk_cell BO.out 0).trans rfl
       have cN : wd.cell? adN = some (.int .i64 p) := HCN.out _ HB.out
       refine pure_ (i := 0) (N := some 48) (v := ?_) (a' := ?_) #[true, false, false, false, false, false, false, false, false, false, false] rfl rfl (by kernel_rfl) (fun _ _ _ h => h) (Or.inl ⟨by rfl, ?_⟩) ?_ ?_
       rotate_left
       · intro w'
         go_simp
         with_reducible rfl
       rotate_left
       · exact putB
       refine pure_ (i := 2) (N := some 50) (v := ?_) (a' := ?_) #[true, false, true, false, false, false, false, false, false, false, false] rfl rfl (by kernel_rfl) (fun _ _ _ h => h) (Or.inl ⟨by rfl, ?_⟩) ?_ ?_
       rotate_left
       · intro w'
         go_simp
         with_reducible rfl
       rotate_left
       · exact putB
       refine pure_ (i := 3) (N := some 51) (v := ?_) (a' := ?_) #[true, false, true, true, false, false, false, false, false, false, false] rfl rfl (by kernel_rfl) (fun _ _ _ h => h) (Or.inl ⟨by rfl, ?_⟩) ?_ ?_
       rotate_left
       · intro w'
         go_simp
         with_reducible rfl
       rotate_left
       · exact putB
       refine pure_ (i := 4) (N := some 52) (v := ?_) (a' := ?_) #[true, false, true, true, true, false, false, false, false, false, false] rfl rfl (by kernel_rfl) (fun _ _ _ h => h) (Or.inl ⟨by rfl, ?_⟩) ?_ ?_
       rotate_left
       · intro w'
         go_simp
         with_reducible rfl
       rotate_left
       · exact putB
       refine take_ (i := 1) (N := some 49) (v := ?_) (a' := ?_) #[true, true, true, true, true, false, false, false, false, false, false] rfl rfl (by kernel_rfl) (fun _ _ _ h => h) (Or.inl ⟨by rfl, ?_⟩) hHeld ?_ ?_
       rotate_left
       · rintro w' ⟨s0, s1⟩
         go_simp
         with_reducible rfl
       rotate_left
       · exact putB
       refine take_ (i := 5) (N := some 53) (v := ?_) (a' := ?_) #[true, true, true, true, true, true, false, false, false, false, false] rfl rfl (by kernel_rfl) (fun _ _ _ h => h) (Or.inl ⟨by rfl, ?_⟩) hHeld ?_ ?_
       rotate_left
       · rintro w' ⟨s0, s1⟩
         go_simp
         with_reducible rfl
       rotate_left
       · exact putB
       refine one_ (i := 6) (N := some 54) #[true, true, true, true, true, true, true, false, false, false, false] rfl rfl (by kernel_rfl) (by decide) (fun K hK => ?_)
       refine goes_ Try.func84 (by kernel_rfl) rfl #[.int .i64 p] (by rfl) rfl rfl (by (try simp only [List.map_toArray, List.map_cons, List.map_nil]); first | done | rfl) ?_
       (with_reducible refine (HF.out _).mono ?_)
       rintro e wa ⟨rfl, hb⟩
       refine ⟨_, rfl, ?_⟩
       have a_ := Aside0.mk (below_step HB.out hb)
       have b_ := Aside0.mk (blk_below BO.out hb)
       have c_ := Aside0.mk (blk_below BR.out hb)
       have d_ := Aside0.mk (Kd.R_below HV.out hb)
       clear HB BO BR HV hb c0_ cN
       have HB := a_
       have BO := b_
       have BR := c_
       have HV := d_
       clear a_ b_ c_ d_
       have c0_ : wa.cell? ⟨go, 0, none⟩ = some (.slice Ak 0 ck) := (blk_cell BO.out 0).trans rfl
       have cN : wa.cell? adN = some (.int .i64 p) := HCN.out _ HB.out
       refine hK.out _ _ ⟨c0_, cN⟩ (fun hHeld => ?_)
       clear hK K
       refine norm_ (a' := ?_) ?_ ?_
       rotate_left
       · show Act.put _ (some 54) _ = _
         exact putB
       refine one_ (i := 7) (N := some 55) #[true, true, true, true, true, true, true, true, false, false, false] rfl rfl (by kernel_rfl) (by decide) (fun K hK => ?_)
       refine Kd.R_lit_step k55 _ 55 ?hg (N := 55) ?hd (xs := ([freshS p] : List S55)) (inner := stC (freshS p)) (ok := fun _ => True) (okp := fun _ => True) ?hr ?hp (fun _ hk => hk) trivial (Below.refl _ _) (Nat.le_refl _) (by simp) ?_; (case hd => rfl); (case hg => rfl); (case hr => exact build_stock (by rfl) (freshS p) (by rfl)); (case hp => exact one_stock _ _ _ _)
       intro vl wb ho_ hb hg_ hnew_
       clear hg_ hnew_
       have HL := Aside0.mk (Kd.R_lower ho_ HB.out.size)
       have d_ := Aside0.mk (Kd.R_elder' HV.out (Kd.R_base ho_) hb)
       have a_ := Aside0.mk (below_step HB.out hb)
       have b_ := Aside0.mk (blk_below BO.out hb)
       have c_ := Aside0.mk (blk_below BR.out hb)
       clear HB BO BR HV hb ho_ c0_ cN
       have HB := a_
       have BO := b_
       have BR := c_
       have HV := d_
       clear a_ b_ c_ d_
       have c0_ : wb.cell? ⟨go, 0, none⟩ = some (.slice Ak 0 ck) := (blk_cell BO.out 0).trans rfl
       have cN : wb.cell? adN = some (.int .i64 p) := HCN.out _ HB.out
       refine hK.out _ _ ⟨c0_, cN⟩ (fun hHeld => ?_)
       clear hK K
       refine norm_ (a' := ?_) ?_ ?_
       rotate_left
       · show Act.put _ (some 55) _ = _
         exact putB
       refine one_ (i := 8) (N := some 56) #[true, true, true, true, true, true, true, true, true, false, false] rfl rfl (by kernel_rfl) (by decide) (fun K hK => ?_)
       obtain ⟨Al, cl, el⟩ := Kd.R_slice HL.out
       subst el
       refine Kd.R_append_rows_step k55 (Rr := k55.K wb) (w0 := wb) w.heap.size (by rfl) (.tmp 49) (.tmp 55) 30 55 _ _ rfl Try.underlying30 infoSt rfl (by decide) (by omega) (.slice Ak 0 ck) ([] : List S55) [freshS p] _ _ _ (fun k_ => some k_ ≠ (.slice Al ([freshS p] : List S55).length cl : Value).ownBlock) (fun k_ => some k_ ≠ (.slice Al ([freshS p] : List S55).length cl : Value).ownBlock ∧ some k_ ≠ (.slice Ak 0 ck : Value).ownBlock) rfl rfl ?aO ?aR ?aK (fun _ h => h) ?aF ?aB ?aS ?aL ?_
       (case aR => exact (Kd.R_reads' HL.out).2.2)
       (case aK => exact (fun x cs h => by have e := k55_cells (show k55.K wb x cs from h); subst e; exact k55_stM _ _ _ _))
       (case aB => exact Below.refl _ _)
       (case aF => exact (fun k_ hk => Kd.fresh' (Kd.R_lt HL.out) k_ hk))
       (case aO => exact Kd.R_mono HV.out (fun _ hk => hk.2))
       (case aS => exact HB.out.size)
       (case aL => simp only [List.length_nil, List.length_singleton]; omega)
       intro v9 wc ho hb hg hat
       have HN := Aside0.mk (Kd.R_mono ho (fun _ _ => trivial) : Kd.R k55 55 wc w.heap.size (fun _ => True) v9 [freshS p])
       have a_ := Aside0.mk (HB.out.grown hg HB.out.size (fun k_ e_ => Kd.R_base HV.out k_ e_))
       have b_ := Aside0.mk (blk_grown BO.out hg (Kd.R_ne HV.out BO.out (by decide)))
       have c_ := Aside0.mk (blk_grown BR.out hg (Kd.R_ne HV.out BR.out (by decide)))
       clear HB BO BR HV HL ho hb hg hat c0_ cN
       have HB := a_
       have BO := b_
       have BR := c_
       clear a_ b_ c_
       obtain ⟨A9, c9, e9⟩ := Kd.R_slice HN.out
       subst e9
       have c0_ : wc.cell? ⟨go, 0, none⟩ = some (.slice Ak 0 ck) := (blk_cell BO.out 0).trans rfl
       have cN : wc.cell? adN = some (.int .i64 p) := HCN.out _ HB.out
       have f0_ : wc.frozen? ⟨go, 0, none⟩ = false := blk_frozen BO.out 0
       refine hK.out _ _ ⟨c0_, cN⟩ (fun hHeld => ?_)
       clear hK K
       refine norm_ (a' := ?_) ?_ ?_
       rotate_left
       · show Act.put _ (some 56) _ = _
         exact putB
       refine pure_ (i := 9) (N := some 57) (v := ?_) (a' := ?_) #[true, true, true, true, true, true, true, true, true, true, false] rfl rfl (by kernel_rfl) (fun _ _ _ h => h) (Or.inl ⟨by rfl, ?_⟩) ?_ ?_
       rotate_left
       · intro w'
         go_simp
         with_reducible rfl
       rotate_left
       · exact putB
       refine last_ (i := 10) (N := none) #[true, true, true, true, true, true, true, true, true, true, true] rfl rfl (by kernel_rfl) (by decide) (fun K hK => ?_)
       refine skip_ (w1 := ?_) (by rfl) rfl ?_ ?_
       rotate_left
       · go_simp
         rfl
       refine hK.out _ _ ?_
       clear hK K
       refine done_ (by kernel_rfl) ?_
       have BO2 := Aside0.mk (blk_put BO.out 0 (.slice A9 ([freshS p] : List S55).length c9) rfl)
       have HN2 := Aside0.mk (Kd.R_mono (Kd.R_far (p := ⟨go, 0, none⟩) (Kd.R_types HN.out BO.out (by decide)) (fun _ hk => hk.2) (.slice A9 ([freshS p] : List S55).length c9)) (fun _ hk => hk.1))
       have BR2 := Aside0.mk (blk_far (p := ⟨go, 0, none⟩) BR.out NBR_BO.out (.slice A9 ([freshS p] : List S55).length c9))
       have HB2 := Aside0.mk (below_set (j := 0) (v := .slice A9 ([freshS p] : List S55).length c9) HB.out GBO.out)
       clear BO HN BR HB hHeld c0_ cN f0_
       go_wp2
       go_roundg 0
       case measure => omega
       case rel => exact ⟨1, _, by omega, by omega, by first | rfl | go_num, BO2, HN2, BR2, HB2⟩
     · have d0 : wr.cell? ⟨go, 0, none⟩ = some vk := (blk_cell BO.out 0).trans rfl
       obtain ⟨Ak, ck, ek⟩ := Kd.R_slice HV.out
       subst ek
       have d1 : wr.cell? ⟨go, 1, none⟩ = some (.int .i16 tub) := (blk_cell BO.out 1).trans rfl
       have d2 : wr.cell? ⟨go, 2, none⟩ = some (.int .i8 every) := (blk_cell BO.out 2).trans rfl
       have d3 : wr.cell? ⟨go, 3, none⟩ = some (.int .i16 0) := (blk_cell BO.out 3).trans rfl
       have e0 : wr.cell? ⟨gr, 0, none⟩ = some (.slice none 0 0) := (blk_cell BR.out 0).trans rfl
       have f0 : wr.frozen? ⟨gr, 0, none⟩ = false := blk_frozen BR.out 0
       have e1 : wr.cell? ⟨gr, 1, none⟩ = some (.int .i16 0) := (blk_cell BR.out 1).trans rfl
       have f1 : wr.frozen? ⟨gr, 1, none⟩ = false := blk_frozen BR.out 1
       have e2 : wr.cell? ⟨gr, 2, none⟩ = some (.int .i8 0) := (blk_cell BR.out 2).trans rfl
       have f2 : wr.frozen? ⟨gr, 2, none⟩ = false := blk_frozen BR.out 2
       have e3 : wr.cell? ⟨gr, 3, none⟩ = some (.int .i16 0) := (blk_cell BR.out 3).trans rfl
       have f3 : wr.frozen? ⟨gr, 3, none⟩ = false := blk_frozen BR.out 3
       go_wp2
       refine bodyPost_ret (results_ct rfl _ _ gr 32 #[.slice Ak (List.replicate 1 (freshS p)).length ck, .int .i16 tub, .int .i8 every, .int .i16 0] (0, 0) _ rfl (put4_blk BR.out) Try.underlying32 rfl (by kernel_rfl)) rfl ?_
       exact ⟨_, rfl, Kd.R_mono (Kd.R_move (Kd.R_types HV.out BR.out (by decide)) (fun k_ hk => put4_block k_ hk.2)) (fun _ _ => trivial), put4_below HB.out GBR.out⟩
end Go.Proofs.Ytggjdcijplgpdaa.H
