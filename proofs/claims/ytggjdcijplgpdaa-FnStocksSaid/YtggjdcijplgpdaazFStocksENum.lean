import Derived.Test.YtggjdcijplgpdaazFStocksEPutB
import Derived.Test.YtggjdcijplgpdaazFStocksEConcat
import Derived.Test.YtggjdcijplgpdaazFStocksEDayOf
import Derived.Test.YtggjdcijplgpdaazFStocksECloneSt
import Derived.Shelf.Abstract
namespace Go.Proofs.Ytggjdcijplgpdaa.H
open Go.RowKit Go.Proofs.YtggjdcijplgpdaaW.PrintWords Go.Proofs.YtggjdcijplgpdaaW.PrintLast Go.Proofs.YtggjdcijplgpdaaW.PrintMore
attribute [local go_sem] max2_int min2_int max_two min_two max_three min_three max_four min_four
set_option linter.unusedVariables false
set_option linter.unusedSimpArgs false
theorem row8_C {W : World} {g o t : Nat} {cs : Array Value} {xs : List Int} (h : W.heap[g]? = some (.cells cs t (0, 0))) (_o : Nat) (hx : xs.length = 8) : (∀ j, j < 8 → cs[o + j]? = some (.int .i16 (xs.getD j 0))) → Kd.C (Kd.int .i16) W (some ⟨g, o, none⟩) xs.length xs := by
 intro hc
 refine ⟨rfl, by omega, fun _ => ⟨_, rfl, fun j p hj => ⟨[.int .i16 p], rfl, rfl, fun i u hu => ?_⟩⟩⟩
 have hj8 : j < 8 := by rw [← hx]; exact (List.getElem?_eq_some_iff.mp hj).1
 have hi : i = 0 := by
  have := (List.getElem?_eq_some_iff.mp hu).1
  simp at this
  exact this
 subst hi
 cases hu
 show W.cell? ((⟨g, o, none⟩ : Addr).add (j * 1 + 0)) = _
 rw [show j * 1 + 0 = j by omega, addr_plus, blk_cell h, hc j hj8, List.getD_eq_getElem?_getD, hj]
 rfl
theorem one_cell {W : World} {g k : Nat} {v : Value} (h : W.cell? ⟨g, k, none⟩ = some v) (i : Nat) (u : Value) (hu : [v][i]? = some u) : W.cell? ((⟨g, 0, none⟩ : Addr).add (k * 1 + i)) = some u := by
 cases i with
 | zero =>
  cases hu
  rw [addr_plus, show 0 + (k * 1 + 0) = k by omega]
  exact h
 | succ i => simp at hu
theorem rows3_C {W : World} {g t : Nat} {A1 A2 A3 : Option Addr} {x1 x2 x3 : List Int} {n1 n2 n3 : Nat} (h : W.heap[g]? = some (.cells #[.slice A1 n1 n1, .slice A2 n2 n2, .slice A3 n3 n3] t (0, 0))) (e1 : x1.length = n1) (e2 : x2.length = n2) (e3 : x3.length = n3) (h1 : Kd.C (Kd.int .i16) W A1 x1.length x1) (h2 : Kd.C (Kd.int .i16) W A2 x2.length x2) (h3 : Kd.C (Kd.int .i16) W A3 x3.length x3) :
 Kd.C (Kd.slice 23 (Kd.int .i16)) W (some ⟨g, 0, none⟩) 3 [x1, x2, x3] := by
 subst e1 e2 e3
 refine ⟨rfl, by decide, fun _ => ⟨_, rfl, fun j p hj => ?_⟩⟩
 rcases j with _ | _ | _ | j
 · cases hj
   exact ⟨_, rfl, ⟨A1, x1.length, rfl, Nat.le_refl _, h1⟩, fun i u hu => one_cell (blk_cell h 0) i u hu⟩
 · cases hj
   exact ⟨_, rfl, ⟨A2, x2.length, rfl, Nat.le_refl _, h2⟩, fun i u hu => one_cell (blk_cell h 1) i u hu⟩
 · cases hj
   exact ⟨_, rfl, ⟨A3, x3.length, rfl, Nat.le_refl _, h3⟩, fun i u hu => one_cell (blk_cell h 2) i u hu⟩
 · simp at hj
def impl_Stock_numbersOf.f (a0_0 : Int) (a0_1 : Int) (a0_2 : Int) (a0_3 : Int) (a0_4 : Int) (a0_5 : Int) (a0_6 : Int) (a0_7 : Int) (a0_8 : Int) (a0_9 : Int) (a0_10 : Int) (a0_11 : Int) (a0_12 : Int) (a0_13 : Int) (a0_14 : Int) (a0_15 : Int) (a0_16 : Int) (a0_17 : Int) (a0_18 : Int) (a0_19 : Int) (a0_20 : Int) (a0_21 : Int) (a0_22 : Int) (a0_23 : Int) (a0_24 : Int) : Option (List Int) := some ([a0_0, a0_1, a0_2, a0_3, a0_4, a0_5, a0_6, a0_7, a0_8, a0_9, a0_10, a0_11, a0_12, a0_13, a0_14, a0_15, a0_16, a0_17, a0_18, a0_19, a0_20, a0_21, a0_22, a0_23, a0_24].map wrap64)
set_option maxHeartbeats 8000000 in
set_option maxRecDepth 100000 in
theorem impl_Stock_numbersOf.calls (a0_0 : Int) (a0_1 : Int) (a0_2 : Int) (a0_3 : Int) (a0_4 : Int) (a0_5 : Int) (a0_6 : Int) (a0_7 : Int) (a0_8 : Int) (a0_9 : Int) (a0_10 : Int) (a0_11 : Int) (a0_12 : Int) (a0_13 : Int) (a0_14 : Int) (a0_15 : Int) (a0_16 : Int) (a0_17 : Int) (a0_18 : Int) (a0_19 : Int) (a0_20 : Int) (a0_21 : Int) (a0_22 : Int) (a0_23 : Int) (a0_24 : Int) (r : List Int) (w : World) (h : impl_Stock_numbersOf.f a0_0 a0_1 a0_2 a0_3 a0_4 a0_5 a0_6 a0_7 a0_8 a0_9 a0_10 a0_11 a0_12 a0_13 a0_14 a0_15 a0_16 a0_17 a0_18 a0_19 a0_20 a0_21 a0_22 a0_23 a0_24 = some r) :
 Calls Try.prog 92 #[.agg #[.int .i16 a0_0, .int .i16 a0_1, .int .i16 a0_2, .int .i16 a0_3, .int .i16 a0_4, .int .i16 a0_5, .int .i16 a0_6, .int .i16 a0_7, .int .i16 a0_8, .int .i16 a0_9, .int .i16 a0_10, .int .i16 a0_11, .int .i16 a0_12, .int .i16 a0_13, .int .i16 a0_14, .int .i16 a0_15, .int .i16 a0_16, .int .i16 a0_17, .int .i16 a0_18, .int .i16 a0_19, .int .i16 a0_20, .int .i16 a0_21, .int .i16 a0_22, .int .i16 a0_23, .int .i32 a0_24]] w fun e w' => ∃ v0_ : Value, e = .returned v0_ ∧ Kd.R (Kd.int .i64) 2 w' w.heap.size (fun _ => True) v0_ r ∧ Below w.heap.size w w' := by
 have hu53 := Try.underlying53
 have info2 : (Try.prog.info? 2).map (fun i => (i.zero, i.size, i.bytes)) = some (some (.int .i64 0), 1, 8) := by kernel_rfl
 have mixed : Try.prog.follows .mixedOrders = true := by kernel_rfl
 obtain ⟨LL, hLL⟩ : ∃ LL : List Int, LL = [a0_0, a0_1, a0_2, a0_3, a0_4, a0_5, a0_6, a0_7, a0_8, a0_9, a0_10, a0_11, a0_12, a0_13, a0_14, a0_15, a0_16, a0_17, a0_18, a0_19, a0_20, a0_21, a0_22, a0_23] := ⟨_, rfl⟩
 have LEN := Aside0.mk (show LL.length = 24 by rw [hLL]; rfl)
 have HLL := Aside0.mk (show slices_Concat_int16_int16.f [[a0_0, a0_1, a0_2, a0_3, a0_4, a0_5, a0_6, a0_7], [a0_8, a0_9, a0_10, a0_11, a0_12, a0_13, a0_14, a0_15], [a0_16, a0_17, a0_18, a0_19, a0_20, a0_21, a0_22, a0_23]] = some LL by rw [hLL]; exact if_pos ⟨by show 3 ≤ 1000; decide, by show 24 ≤ 8796093022208; decide⟩)
 have HEND := Aside0.mk (show LL.map wrap64 ++ [wrap64 a0_24] = r by rw [hLL]; exact Option.some.inj h)
 clear hLL h
 go_enter Try.func92, Try.ntmps92
 go_wp2_with (first | ((with_reducible refine gate_dst (N := 1) rfl ?_); refine box_event ?hg (N := 1) ?hd (cs := #[.int .i16 a0_0, .int .i16 a0_1, .int .i16 a0_2, .int .i16 a0_3, .int .i16 a0_4, .int .i16 a0_5, .int .i16 a0_6, .int .i16 a0_7, .int .i16 a0_8, .int .i16 a0_9, .int .i16 a0_10, .int .i16 a0_11, .int .i16 a0_12, .int .i16 a0_13, .int .i16 a0_14, .int .i16 a0_15, .int .i16 a0_16, .int .i16 a0_17, .int .i16 a0_18, .int .i16 a0_19, .int .i16 a0_20, .int .i16 a0_21, .int .i16 a0_22, .int .i16 a0_23, .int .i32 a0_24]) (t := 55) ?hr ?_; (case hd => rfl); (case hg => rfl); (case hr => first | (go_simp; done) | (go_simp; rfl)); intro g1 hg_ w1 hb_ hb; have K1 := Aside0.mk hb_; have HB := Aside0.mk hb; clear hb_ hb hg_) | ((with_reducible refine gate_dst (N := 6) rfl ?_); refine Kd.R_lit (Kd.int .i64) _ 2 ?hg (N := 6) ?hd (xs := ([] : List Int)) (inner := []) (ok := fun _ => True) (okp := fun _ => True) ?hr ?hp (fun _ hk => hk) trivial (Below.refl _ _) (Nat.le_refl _) (by simp) ?_; (case hd => rfl); (case hg => rfl); (case hr => first | (go_simp; done) | (go_simp; rfl)); (case hp => exact (Reps.none _ _)); intro v3 w3 ho hb hg_ hnew_; clear hg_ hnew_; have HO3 := Aside0.mk (Kd.R_lower ho HB.out.size); have n0_ := Aside0.mk (blk_below K1.out hb); have n1_ := Aside0.mk (below_step HB.out hb); clear K1 HB ho hb; have K1 := n0_; have HB := n1_; clear n0_ n1_))
 refine start_ (n := 10) (S := fun w' => True) (ds := [6, 7]) #[false, false, false, false, false, false, false, false, false, false] (by kernel_rfl) rfl rfl trivial (fun hHeld => ?_)
 have n0_ := Aside0.mk (blk_drew K1.out)
 have n1_ := Aside0.mk (below_drew1 HB.out)
 have n2_ := Aside0.mk (Kd.R_drew HO3.out)
 clear K1 HB HO3
 generalize w3.drew = wd at n0_ n1_ n2_ ⊢
 have K1 := n0_
 have HB := n1_
 have HO3 := n2_
 clear n0_ n1_ n2_
 refine pure_ (i := 0) (N := some 7) (v := ?_) (a' := ?_) #[true, false, false, false, false, false, false, false, false, false] rfl rfl (by kernel_rfl) (fun _ _ _ h => h) (Or.inl ⟨by rfl, ?_⟩) ?_ ?_
 rotate_left
 · intro w'
   go_simp
   with_reducible rfl
 rotate_left
 · exact putB
 refine pure_ (i := 1) (N := some 8) (v := ?_) (a' := ?_) #[true, true, false, false, false, false, false, false, false, false] rfl rfl (by kernel_rfl) (fun _ _ _ h => h) (Or.inl ⟨by rfl, ?_⟩) ?_ ?_
 rotate_left
 · intro w'
   go_simp
   with_reducible rfl
 rotate_left
 · exact putB
 refine pure_ (i := 2) (N := some 9) (v := ?_) (a' := ?_) #[true, true, true, false, false, false, false, false, false, false] rfl rfl (by kernel_rfl) (fun _ _ _ h => h) (Or.inl ⟨by rfl, ?_⟩) ?_ ?_
 rotate_left
 · intro w'
   go_simp
   with_reducible rfl
 rotate_left
 · exact putB
 refine pure_ (i := 3) (N := some 10) (v := ?_) (a' := ?_) #[true, true, true, true, false, false, false, false, false, false] rfl rfl (by kernel_rfl) (fun _ _ _ h => h) (Or.inl ⟨by rfl, ?_⟩) ?_ ?_
 rotate_left
 · intro w'
   go_simp
   with_reducible rfl
 rotate_left
 · exact putB
 refine pure_ (i := 4) (N := some 11) (v := ?_) (a' := ?_) #[true, true, true, true, true, false, false, false, false, false] rfl rfl (by kernel_rfl) (fun _ _ _ h => h) (Or.inl ⟨by rfl, ?_⟩) ?_ ?_
 rotate_left
 · intro w'
   go_simp
   with_reducible rfl
 rotate_left
 · exact putB
 refine pure_ (i := 5) (N := some 12) (v := ?_) (a' := ?_) #[true, true, true, true, true, true, false, false, false, false] rfl rfl (by kernel_rfl) (fun _ _ _ h => h) (Or.inl ⟨by rfl, ?_⟩) ?_ ?_
 rotate_left
 · intro w'
   go_simp
   with_reducible rfl
 rotate_left
 · exact putB
 refine pure_ (i := 9) (N := some 16) (v := ?_) (a' := ?_) #[true, true, true, true, true, true, false, false, false, true] rfl rfl (by kernel_rfl) (fun _ _ _ h => h) (Or.inl ⟨by rfl, ?_⟩) ?_ ?_
 rotate_left
 · intro w'
   go_simp
   with_reducible rfl
 rotate_left
 · exact putB
 refine last_ (i := 6) (N := some 13) #[true, true, true, true, true, true, true, false, false, true] rfl rfl (by kernel_rfl) (by decide) (fun K hK => ?_)
 refine value_ (w1 := ?_) (v := ?_) (by rfl) rfl ?_ ?_
 rotate_left 2
 · go_simp
   constructor
   · rfl
   · rfl
 obtain ⟨w13, hw13⟩ : ∃ w13, w13 = wd.alloc (.cells #[.slice (some ⟨g1, 0, none⟩) 8 8, .slice (some ⟨g1, 8, none⟩) 8 8, .slice (some ⟨g1, 16, none⟩) 8 8] 158) := ⟨_, rfl⟩
 have hn13 := blk_new wd (.cells #[.slice (some ⟨g1, 0, none⟩) 8 8, .slice (some ⟨g1, 8, none⟩) 8 8, .slice (some ⟨g1, 16, none⟩) 8 8] 158)
 have hb13 : Below wd.heap.size wd w13 := by rw [hw13]; exact below_alloc (Below.refl _ _) _
 rw [← hw13] at hn13 ⊢
 have n0_ := Aside0.mk (blk_below K1.out hb13)
 have n1_ := Aside0.mk (below_step HB.out hb13)
 have n2_ := Aside0.mk (Kd.R_below HO3.out hb13)
 have HC := Aside0.mk (rows3_C hn13 (x1 := [a0_0, a0_1, a0_2, a0_3, a0_4, a0_5, a0_6, a0_7]) (x2 := [a0_8, a0_9, a0_10, a0_11, a0_12, a0_13, a0_14, a0_15]) (x3 := [a0_16, a0_17, a0_18, a0_19, a0_20, a0_21, a0_22, a0_23]) rfl rfl rfl (row8_C n0_.out 0 rfl (fun j hj => by rcases (show j = 0 ∨ j = 1 ∨ j = 2 ∨ j = 3 ∨ j = 4 ∨ j = 5 ∨ j = 6 ∨ j = 7 by omega) with rfl | rfl | rfl | rfl | rfl | rfl | rfl | rfl <;> rfl)) (row8_C n0_.out 0 rfl (fun j hj => by rcases (show j = 0 ∨ j = 1 ∨ j = 2 ∨ j = 3 ∨ j = 4 ∨ j = 5 ∨ j = 6 ∨ j = 7 by omega) with rfl | rfl | rfl | rfl | rfl | rfl | rfl | rfl <;> rfl)) (row8_C n0_.out 0 rfl (fun j hj => by rcases (show j = 0 ∨ j = 1 ∨ j = 2 ∨ j = 3 ∨ j = 4 ∨ j = 5 ∨ j = 6 ∨ j = 7 by omega) with rfl | rfl | rfl | rfl | rfl | rfl | rfl | rfl <;> rfl)))
 clear K1 HB HO3 hn13 hb13 hw13
 have K1 := n0_
 have HB := n1_
 have HO3 := n2_
 clear n0_ n1_ n2_
 refine hK.out _ _ ?_
 clear hK K
 refine norm_ (a' := ?_) ?_ ?_
 rotate_left
 · show Act.put _ (some 13) _ = _
   exact putB
 refine last_ (i := 7) (N := some 14) #[true, true, true, true, true, true, true, true, false, true] rfl rfl (by kernel_rfl) (by decide) (fun K hK => ?_)
 refine goes_ Try.func132 (by kernel_rfl) rfl #[.slice (some ⟨wd.heap.size, 0, none⟩) 3 3] (by rfl) rfl rfl (by (try simp only [List.map_toArray, List.map_cons, List.map_nil]); first | done | rfl) ?_
 refine (slices_Concat_int16_int16.calls (some ⟨wd.heap.size, 0, none⟩) 3 [[a0_0, a0_1, a0_2, a0_3, a0_4, a0_5, a0_6, a0_7], [a0_8, a0_9, a0_10, a0_11, a0_12, a0_13, a0_14, a0_15], [a0_16, a0_17, a0_18, a0_19, a0_20, a0_21, a0_22, a0_23]] LL w13 HC.out (Nat.le_refl 3) HLL.out).mono ?_
 rintro e w14 ⟨v14, rfl, hr_, hb_⟩
 refine ⟨_, rfl, ?_⟩
 have n0_ := Aside0.mk (blk_below K1.out hb_)
 have n1_ := Aside0.mk (below_step HB.out hb_)
 have n2_ := Aside0.mk (Kd.R_below HO3.out hb_)
 have HO14 := Aside0.mk (Kd.R_lower hr_ HB.out.size)
 clear K1 HB HO3 hr_ hb_ HC
 have K1 := n0_
 have HB := n1_
 have HO3 := n2_
 clear n0_ n1_ n2_
 obtain ⟨g14, c14, e14, _⟩ := Kd.R_form HO14.out (by rw [LEN.out]; decide)
 rw [LEN.out] at e14
 subst e14
 refine hK.out _ _ ?_
 clear hK K
 refine norm_ (a' := ?_) ?_ ?_
 rotate_left
 · show Act.put _ (some 14) _ = _
   exact putB
 refine pure_ (i := 8) (N := some 15) (v := ?_) (a' := ?_) #[true, true, true, true, true, true, true, true, true, true] rfl rfl (by kernel_rfl) (fun _ _ _ h => h) (Or.inl ⟨by rfl, ?_⟩) ?_ ?_
 rotate_left
 · intro w'
   go_simp
   with_reducible rfl
 rotate_left
 · exact putB
 refine done_ (by kernel_rfl) ?_
 go_wp2
 go_loopg [3, 16] 24 (fun gk v3 v16 wr => ∃ (i : Nat), i ≤ 24 ∧ 24 - i ≤ gk ∧ v16 = .int .i64 i ∧ Aside0 (Kd.R (Kd.int .i64) 2 wr w.heap.size (fun _ => True) v3 ((LL.take i).map wrap64)) ∧ Aside0 (Kd.R (Kd.int .i16) 23 wr w.heap.size (fun _ => True) (.slice (some ⟨g14, 0, none⟩) 24 c14) LL) ∧ Aside0 (wr.heap[g1]? = some (.cells #[.int .i16 a0_0, .int .i16 a0_1, .int .i16 a0_2, .int .i16 a0_3, .int .i16 a0_4, .int .i16 a0_5, .int .i16 a0_6, .int .i16 a0_7, .int .i16 a0_8, .int .i16 a0_9, .int .i16 a0_10, .int .i16 a0_11, .int .i16 a0_12, .int .i16 a0_13, .int .i16 a0_14, .int .i16 a0_15, .int .i16 a0_16, .int .i16 a0_17, .int .i16 a0_18, .int .i16 a0_19, .int .i16 a0_20, .int .i16 a0_21, .int .i16 a0_22, .int .i16 a0_23, .int .i32 a0_24] 55 (0, 0))) ∧ Aside0 (Below w.heap.size w wr))
 case atStart => exact ⟨0, by omega, by omega, rfl, HO3, HO14, K1, HB⟩
 case round =>
  clear HO3 HO14 K1 HB
  obtain ⟨i, hi, hgk, rfl, HO3, HO14, K1, HB⟩ := hrel
  by_cases hlt : i < 24
  · have hltz : (i : Int) < 24 := by omega
    obtain ⟨cX, _⟩ := Kd.R_celln (d := (0 : Int)) HO14.out (i : Int) (by omega) hltz
    obtain ⟨x, hx⟩ : ∃ x, rdOf 0 LL (i : Int) = x := ⟨_, rfl⟩
    rw [Int.toNat_natCast, hx] at cX
    have HX := Aside0.mk (show LL.take (i + 1) = LL.take i ++ [x] by
     have hl : i < LL.length := by rw [LEN.out]; exact hlt
     rw [← List.take_append_getElem hl, ← hx]
     show _ = _ ++ [LL.getD i 0]
     rw [List.getD_eq_getElem?_getD, List.getElem?_eq_getElem hl]
     rfl)
    have LT := Aside0.mk (show ((LL.take i).map wrap64).length ≤ 24 by rw [List.length_map, List.length_take]; omega)
    clear hx
    go_wp2_with ((with_reducible refine gate_builtin (b := .append) (xs := #[.tmp 20, .tmp 23]) rfl ?_); at_builtin; refine Kd.R_append (Kd.int .i64) (w0 := w) w.heap.size rfl (.tmp 20) (.tmp 23) 49 2 (.int .i64 0) 8 rfl Try.underlying49 info2 rfl (by decide) (by omega) u3 ((LL.take i).map wrap64) (wrap64 x) [.int .i64 (wrap64 x)] (fun _ => True) (fun _ => False) rfl rfl ?aP (fun _ hk => hk.elim) ?aF ?aO ?aB ?aS ?aL ?_; (case aP => exact rfl); (case aB => exact HB.out); (case aF => exact (fun _ _ => trivial)); (case aO => exact HO3.out); (case aS => exact (below_size HB.out)); (case aL => have := LT.out; omega); intro v24 w24 ho hb hg hat; have n0_ := Aside0.mk (Kd.R_over' HO14.out (Kd.R_typed HO3.out) (by decide) hg); have n1_ := Aside0.mk (blk_grown K1.out hg (Kd.R_ne HO3.out K1.out (by decide))); clear HO14 K1 HO3 HB; have HO14 := n0_; have K1 := n1_; have HO3 := Aside0.mk ho; have HB := Aside0.mk hb; clear n0_ n1_ ho hb hg hat)
    go_roundg (24 - (i + 1))
    case measure => omega
    case rel => exact ⟨i + 1, by omega, by omega, by go_num, ⟨by rw [HX.out, List.map_append]; exact HO3.out⟩, HO14, K1, HB⟩
  · have hltz : ¬ (i : Int) < 24 := by omega
    obtain rfl : i = 24 := by omega
    have c24 : wr.cell? ⟨g1, 24, none⟩ = some (.int .i32 a0_24) := (blk_cell K1.out 24).trans rfl
    have LT := Aside0.mk (show ((LL.take 24).map wrap64).length ≤ 24 by rw [List.length_map, List.length_take]; omega)
    have LE := Aside0.mk (show LL.take 24 = LL by rw [← LEN.out]; exact List.take_length)
    go_wp2_with ((with_reducible refine gate_builtin (b := .append) (xs := #[.tmp 26, .tmp 30]) rfl ?_); at_builtin; refine Kd.R_append (Kd.int .i64) (w0 := w) w.heap.size rfl (.tmp 26) (.tmp 30) 49 2 (.int .i64 0) 8 rfl Try.underlying49 info2 rfl (by decide) (by omega) u3 ((LL.take 24).map wrap64) (wrap64 a0_24) [.int .i64 (wrap64 a0_24)] (fun _ => True) (fun _ => False) rfl rfl ?aP (fun _ hk => hk.elim) ?aF ?aO ?aB ?aS ?aL ?_; (case aP => exact rfl); (case aB => exact HB.out); (case aF => exact (fun _ _ => trivial)); (case aO => exact HO3.out); (case aS => exact (below_size HB.out)); (case aL => have := LT.out; omega); intro v31 w31 ho hb hg hat; have HO31 := Aside0.mk ho; have HBE := Aside0.mk hb; clear ho hb hg hat)
    go_ret
    exact ⟨v31, rfl, by rw [← HEND.out]; have := HO31.out; rw [LE.out] at this; exact this, HBE.out⟩
end Go.Proofs.Ytggjdcijplgpdaa.H
