import Derived.Test.YtggjdcijplgpdaazFStocksEPutB
import Derived.Test.YtggjdcijplgpdaazFStocksENeedC
import Derived.Test.YtggjdcijplgpdaazFStocksEDay1
import Derived.Test.YtggjdcijplgpdaazFStocksEDayOf
import Derived.Test.YtggjdcijplgpdaazFStocksEIdxSS
import Derived.Test.YtggjdcijplgpdaazFStocksEInH
import Derived.Test.YtggjdcijplgpdaazFStocksEKCode
import Derived.Test.YtggjdcijplgpdaazFStocksELasts
import Derived.Test.YtggjdcijplgpdaazFStocksENewH
import Derived.Test.YtggjdcijplgpdaazFStocksESLeast
import Derived.Test.YtggjdcijplgpdaazFStocksECloneSt
import Derived.Test.YtggjdcijplgpdaazFStocksEVHF
import Derived.Shelf.Abstract
import Derived.Deep.QuietTactic
import Derived.BigQuiet
namespace Go.Proofs.Ytggjdcijplgpdaa.H
open Go.RowKit Go.Proofs.YtggjdcijplgpdaaW.PrintWords Go.Proofs.YtggjdcijplgpdaaW.PrintLast Go.Proofs.YtggjdcijplgpdaaW.PrintMore
attribute [local go_sem] max2_int min2_int max_two min_two max_three min_three max_four min_four
set_option linter.unusedVariables false
set_option linter.unusedSimpArgs false
set_option maxHeartbeats 8000000 in
set_option maxRecDepth 100000 in
theorem least1_calls (w : World) (kb adX : Addr) (c : Nat) (x : Int) (hk : w.cell? kb = some (.int .i64 0)) (hr : Kd.C (Kd.int .i64) w (some adX) 1 [x]) (hc : 1 ≤ c) (hx : 0 ≤ x ∧ x ≤ 500) :
 Calls Try.prog 74 #[.slice (some adX) 1 c, .pointer (some kb)] w fun e w' => e = .returned (.bool false) ∧ Below w.heap.size w w' := by
 have mixed : Try.prog.follows .mixedOrders = true := by kernel_rfl
 have HS := Aside0.mk (fun (w' : World) (hb : Below w.heap.size w w') => size_one (some adX) c x w' (Kd.C_below hr hb) hc)
 have HP := Aside0.mk (fun (w : World) => (impl_isPieces.calls x true w (by unfold impl_isPieces.f; rw [within_B, inB_of hx]; rfl)).mono (fun e w' h => (⟨h.1, h.2.below⟩ : e = .returned (.bool true) ∧ Below w.heap.size w w')))
 obtain ⟨ad, e, hcx⟩ := at_one (c := c) hr
 obtain rfl := Option.some.inj e
 have CK := Aside0.mk hk
 have CX := Aside0.mk hcx
 have ck := hk
 have cx := hcx
 have HB := Aside0.mk (Below.refl w.heap.size w)
 clear hk hr hc hx hcx
 go_enter Try.func74, Try.ntmps74
 go_wp2
 refine start_ (n := 13) (S := fun w' => w'.cell? kb = some (.int .i64 0) ∧ w'.cell? adX = some (.int .i64 x)) (ds := []) #[false, false, false, false, false, false, false, false, false, false, false, false, false] (by kernel_rfl) rfl rfl ⟨ck, cx⟩ (fun hHeld => ?_)
 have n_ := Aside0.mk (below_drew1 HB.out)
 clear HB ck cx
 have HB := n_
 clear n_
 generalize w.drew = wd at HB hHeld ⊢
 have ck : wd.cell? kb = some (.int .i64 0) := (HB.out.cell (World.block_lt_of_cell? _ _ CK.out)).trans CK.out
 have cx : wd.cell? adX = some (.int .i64 x) := (HB.out.cell (World.block_lt_of_cell? _ _ CX.out)).trans CX.out
 refine pure_ (i := 0) (N := some 4) (v := ?_) (a' := ?_) #[true, false, false, false, false, false, false, false, false, false, false, false, false] rfl rfl (by kernel_rfl) (fun _ _ _ h => h) (Or.inl ⟨by rfl, ?_⟩) ?_ ?_
 rotate_left
 · intro w'
   go_simp
   with_reducible rfl
 rotate_left
 · exact putB
 refine take_ (i := 2) (N := some 6) (v := ?_) (a' := ?_) #[true, false, true, false, false, false, false, false, false, false, false, false, false] rfl rfl (by kernel_rfl) (fun _ _ _ h => h) (Or.inl ⟨by rfl, ?_⟩) hHeld ?_ ?_
 rotate_left
 · rintro w' ⟨s0, s1⟩
   go_simp
   with_reducible rfl
 rotate_left
 · exact putB
 refine one_ (i := 1) (N := some 5) #[true, true, true, false, false, false, false, false, false, false, false, false, false] rfl rfl (by kernel_rfl) (by decide) (fun K hK => ?_)
 refine goes_ Try.func75 (by kernel_rfl) rfl #[.slice (some adX) 1 c] (by rfl) rfl rfl (by (try simp only [List.map_toArray, List.map_cons, List.map_nil]); first | done | rfl) ?_
 (with_reducible refine (HS.out _ HB.out).mono ?_)
 rintro e wa ⟨rfl, hb⟩
 refine ⟨_, rfl, ?_⟩
 have n_ := Aside0.mk (below_step HB.out hb)
 clear HB hb ck cx
 have HB := n_
 clear n_
 have ck : wa.cell? kb = some (.int .i64 0) := (HB.out.cell (World.block_lt_of_cell? _ _ CK.out)).trans CK.out
 have cx : wa.cell? adX = some (.int .i64 x) := (HB.out.cell (World.block_lt_of_cell? _ _ CX.out)).trans CX.out
 refine hK.out _ _ ⟨ck, cx⟩ (fun hHeld => ?_)
 clear hK K
 refine norm_ (a' := ?_) ?_ ?_
 rotate_left
 · show Act.put _ (some 5) _ = _
   exact putB
 refine pure_ (i := 3) (N := some 7) (v := ?_) (a' := ?_) #[true, true, true, true, false, false, false, false, false, false, false, false, false] rfl rfl (by kernel_rfl) (fun _ _ _ h => h) (Or.inl ⟨by rfl, ?_⟩) ?_ ?_
 rotate_left
 · intro w'
   go_simp
   with_reducible rfl
 rotate_left
 · exact putB
 refine pure_ (i := 4) (N := some 8) (v := ?_) (a' := ?_) #[true, true, true, true, true, false, false, false, false, false, false, false, false] rfl rfl (by kernel_rfl) (fun _ _ _ h => h) (Or.inl ⟨by rfl, ?_⟩) ?_ ?_
 rotate_left
 · intro w'
   go_simp
   with_reducible rfl
 rotate_left
 · exact putB
 refine pure_ (i := 5) (N := some 9) (v := ?_) (a' := ?_) #[true, true, true, true, true, true, false, false, false, false, false, false, false] rfl rfl (by kernel_rfl) (fun _ _ _ h => h) (Or.inl ⟨by rfl, ?_⟩) ?_ ?_
 rotate_left
 · intro w'
   go_simp
   with_reducible rfl
 rotate_left
 · exact putB
 refine take_ (i := 6) (N := some 10) (v := ?_) (a' := ?_) #[true, true, true, true, true, true, true, false, false, false, false, false, false] rfl rfl (by kernel_rfl) (fun _ _ _ h => h) (Or.inl ⟨by rfl, ?_⟩) hHeld ?_ ?_
 rotate_left
 · rintro w' ⟨s0, s1⟩
   go_simp
   with_reducible rfl
 rotate_left
 · exact putB
 refine pure_ (i := 7) (N := some 11) (v := ?_) (a' := ?_) #[true, true, true, true, true, true, true, true, false, false, false, false, false] rfl rfl (by kernel_rfl) (fun _ _ _ h => h) (Or.inl ⟨by rfl, ?_⟩) ?_ ?_
 rotate_left
 · intro w'
   go_simp
   with_reducible rfl
 rotate_left
 · exact putB
 refine take_ (i := 8) (N := some 12) (v := ?_) (a' := ?_) #[true, true, true, true, true, true, true, true, true, false, false, false, false] rfl rfl (by kernel_rfl) (fun _ _ _ h => h) (Or.inl ⟨by rfl, ?_⟩) hHeld ?_ ?_
 rotate_left
 · rintro w' ⟨s0, s1⟩
   go_simp
   with_reducible rfl
 rotate_left
 · exact putB
 refine one_ (i := 9) (N := some 13) #[true, true, true, true, true, true, true, true, true, true, false, false, false] rfl rfl (by kernel_rfl) (by decide) (fun K hK => ?_)
 refine goes_ Try.func76 (by kernel_rfl) rfl #[.int .i64 x] (by rfl) rfl rfl (by (try simp only [List.map_toArray, List.map_cons, List.map_nil]); first | done | rfl) ?_
 (with_reducible refine (HP.out _).mono ?_)
 rintro e wb ⟨rfl, hb⟩
 refine ⟨_, rfl, ?_⟩
 have n_ := Aside0.mk (below_step HB.out hb)
 clear HB hb ck cx
 have HB := n_
 clear n_
 have ck : wb.cell? kb = some (.int .i64 0) := (HB.out.cell (World.block_lt_of_cell? _ _ CK.out)).trans CK.out
 have cx : wb.cell? adX = some (.int .i64 x) := (HB.out.cell (World.block_lt_of_cell? _ _ CX.out)).trans CX.out
 refine hK.out _ _ ⟨ck, cx⟩ (fun hHeld => ?_)
 clear hK K
 refine norm_ (a' := ?_) ?_ ?_
 rotate_left
 · show Act.put _ (some 13) _ = _
   exact putB
 refine pure_ (i := 10) (N := some 14) (v := ?_) (a' := ?_) #[true, true, true, true, true, true, true, true, true, true, true, false, false] rfl rfl (by kernel_rfl) (fun _ _ _ h => h) (Or.inl ⟨by rfl, ?_⟩) ?_ ?_
 rotate_left
 · intro w'
   go_simp
   with_reducible rfl
 rotate_left
 · exact putB
 refine pure_ (i := 11) (N := some 15) (v := ?_) (a' := ?_) #[true, true, true, true, true, true, true, true, true, true, true, true, false] rfl rfl (by kernel_rfl) (fun _ _ _ h => h) (Or.inl ⟨by rfl, ?_⟩) ?_ ?_
 rotate_left
 · intro w'
   go_simp
   with_reducible rfl
 rotate_left
 · exact putB
 refine pure_ (i := 12) (N := some 3) (v := ?_) (a' := ?_) #[true, true, true, true, true, true, true, true, true, true, true, true, true] rfl rfl (by kernel_rfl) (fun _ _ _ h => h) (Or.inl ⟨by rfl, ?_⟩) ?_ ?_
 rotate_left
 · intro w'
   go_simp
   with_reducible rfl
 rotate_left
 · exact putB
 refine done_ (by kernel_rfl) ?_
 go_wp2
 go_ret
 exact ⟨rfl, HB.out⟩
set_option maxHeartbeats 8000000 in
set_option maxRecDepth 100000 in
theorem least2_calls (w0 w : World) (g g2 cap : Nat) (li : List S55) (a1 a2 a3 : Int) (kb adX : Addr) (c : Nat) (x : Int) (hk : w.cell? kb = some (.int .i64 0)) (hr : Kd.C (Kd.int .i64) w0 (some adX) 1 [x]) (hc : 1 ≤ c) (hx : 0 ≤ x ∧ x ≤ 500) (hf : FitL li) (hl : li.length = 1) (ht : 0 ≤ a1 ∧ a1 ≤ 1000) (he : 1 ≤ a2 ∧ a2 ≤ 7) (h3 : 0 ≤ a3 ∧ a3 < 60)
 (hb : Below w0.heap.size w0 w) (hg : w0.heap.size ≤ g ∧ w0.heap.size ≤ g2) (H : InH w g g2 cap li a1 a2 a3 w) :
 Calls Try.prog 78 #[.slice (some adX) 1 c, .pointer (some ⟨g, 0, none⟩), .pointer (some kb)] w fun e w' => e = .returned (.bool ((dayOf li a1 a2 a3 [x]).2.any isShort)) ∧ InH w g g2 cap (dayOf li a1 a2 a3 [x]).1 a1 a2 (a3 + 1) w' := by
 have hNL : NeedL [x] := fun y hy => by rw [List.mem_singleton] at hy; subst hy; exact hx
 have hpos := dayOf_pos (a1 := a1) (a2 := a2) (a3 := a3) hf hNL hl.symm
 have HD := Aside0.mk (fun (cc : Nat) => day_walk w0 w w g g2 cap li a1 a2 a3 (some adX) cc [x] hf ht he h3 hNL hl.symm (by omega) hr hb hg H)
 obtain ⟨q, hq⟩ : ∃ q, dayOf li a1 a2 a3 [x] = q := ⟨_, rfl⟩
 rw [hq] at HD hpos ⊢
 obtain ⟨y, hy⟩ : ∃ y, q.2 = [y] := by
  have h1 := hpos.2
  rw [hl] at h1
  exact List.length_eq_one_iff.mp h1
 rw [hy] at HD ⊢
 obtain ⟨b, hbq⟩ : ∃ b, ([y] : List Int).any isShort = b := ⟨_, rfl⟩
 rw [hbq]
 have hby : decide (y > 0) = b := by rw [← hbq]; simp [isShort]
 have HBY := Aside0.mk hby
 have hcz : 0 < c := hc
 have ck := hk
 clear hk hr hc hx hf hl ht he h3 hb hg H hNL hpos hq hy hbq hby
 go_enter Try.func78, Try.ntmps78
 go_wp2_with (go_at_call 66; refine (HD.out _).mono ?_; rintro e w6 ⟨vd, rfl, hv, hI⟩; obtain ⟨Av, cv, ev⟩ := Kd.R_slice hv; subst ev; obtain ⟨adV, eV, hcv⟩ := Kd.at_int (Kd.R_reads' hv).2.2 (0 : Int) (by omega) (by simp); subst eV; have cY : w6.cell? adV = some (.int .i64 y) := (by have e0 : adV.add (0 : Int).toNat = adV := (by show adV.add 0 = adV; unfold Addr.add; cases adV with | mk b o i => cases i <;> simp); rw [e0] at hcv; exact hcv); have HI := Aside0.mk hI; clear hv hI hcv ck)
 go_ret
 exact ⟨by rw [← HBY.out]; rfl, HI.out⟩
end Go.Proofs.Ytggjdcijplgpdaa.H
