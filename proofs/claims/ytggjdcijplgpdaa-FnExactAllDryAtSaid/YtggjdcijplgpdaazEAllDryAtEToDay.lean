import Derived.Test.YtggjdcijplgpdaazEAllDryAtD0
import Derived.Test.YtggjdcijplgpdaazEAllDryAtD2
import Derived.Test.YtggjdcijplgpdaazEAllDryAtEDayBase
import Derived.Shelf.Abstract
import Derived.Laws.Tables
import Derived.Deep.WholeRow
import Derived.Laws.CopyOwn
namespace Go.Proofs.Ytggjdcijplgpdaa.D
open Go.RowKit Go.Proofs.YtggjdcijplgpdaaW.PrintWords Go.Proofs.YtggjdcijplgpdaaW.PrintLast Go.Proofs.YtggjdcijplgpdaaW.PrintMore
attribute [local go_sem] max2_int min2_int max_two min_two max_three min_three max_four min_four
set_option linter.unusedVariables false
set_option linter.unusedSimpArgs false
theorem dayA_set (l : List S74) (k : Nat) (y : S74) (hk : k < l.length) : (((dayA l).setIfInBounds (k * 3) (.int .i8 y.f0)).setIfInBounds (k * 3 + 1) (.int .i8 y.f1)).setIfInBounds (k * 3 + 2) (.int .i8 y.f2) = dayA (l.set k y) := by
  apply Array.ext_getElem?
  intro i
  have sz := dayA_size l
  have sz2 := dayA_size (l.set k y)
  rw [List.length_set] at sz2
  by_cases hi : i < l.length * 3
  · obtain ⟨j, r, rfl, hr⟩ : ∃ j r, i = j * 3 + r ∧ r < 3 := ⟨i / 3, i % 3, by omega, by omega⟩
    have hj : j < l.length := by omega
    simp only [Array.getElem?_setIfInBounds, Array.size_setIfInBounds, sz]
    by_cases e : j = k
    · subst e
      rw [dayA_get (l.set j y) j y (by rw [List.getElem?_set_self hj]) r hr]
      rcases (show r = 0 ∨ r = 1 ∨ r = 2 by omega) with rfl | rfl | rfl
      · rw [if_neg (by omega), if_neg (by omega), if_pos (by omega), if_pos (by omega)]; rfl
      · rw [if_neg (by omega), if_pos (by omega), if_pos (by omega)]; rfl
      · rw [if_pos (by omega), if_pos (by omega)]; rfl
    · rw [if_neg (by omega), if_neg (by omega), if_neg (by omega), dayA_get l j l[j] (List.getElem?_eq_getElem hj) r hr, dayA_get (l.set k y) j l[j] (by rw [List.getElem?_set_ne (fun h => e h.symm)]; exact List.getElem?_eq_getElem hj) r hr]
  · rw [Array.getElem?_eq_none (by simp only [Array.size_setIfInBounds]; omega), Array.getElem?_eq_none (by omega)]
theorem dayA_one (l : List S74) : (dayA l).all (·.oneCell') = true := by
  rw [Array.all_eq_true_iff_forall_mem]
  intro v hv
  unfold dayA at hv
  rw [List.mem_toArray, List.mem_flatMap] at hv
  obtain ⟨x, _, hx⟩ := hv
  simp only [hourC, List.mem_cons, List.not_mem_nil, or_false] at hx
  rcases hx with rfl | rfl | rfl <;> rfl
def dayPart (l : List S74) (k : Nat) : List S74 := l.take k ++ List.replicate (24 - k) z74
theorem dayPart_len (l : List S74) (k : Nat) (hl : l.length = 24) (hk : k ≤ 24) : (dayPart l k).length = 24 := by
  unfold dayPart
  rw [List.length_append, List.length_take, List.length_replicate]
  omega
theorem dayPart_set (l : List S74) (k : Nat) (hl : l.length = 24) (hk : k < 24) : (dayPart l k).set k (l[k]'(by omega)) = dayPart l (k + 1) := by
  unfold dayPart
  have e : 24 - k = (24 - (k + 1)) + 1 := by omega
  rw [e, List.replicate_succ, List.set_append_right _ _ (by rw [List.length_take]; omega)]
  rw [show k - (l.take k).length = 0 by rw [List.length_take]; omega, List.set_cons_zero, List.take_succ_eq_append_getElem (by omega), List.append_assoc]
  rfl
theorem dayPart_all (l : List S74) (hl : l.length = 24) : dayPart l 24 = l := by
  unfold dayPart
  rw [List.take_of_length_le (by omega)]
  simp
theorem zeroDay : ∀ w, (zeroValue 76).run Try.prog w = .ok (.agg (dayA (List.replicate 24 z74))) w := (zero_of_info (n := 72) (by kernel_rfl)).1
theorem day_info70 {l : List S74} (hl : l.length = 24) : (Try.prog.info? 70).map (·.size) = some (dayA l).size := by
  rw [dayA_size, hl]
  kernel_rfl
def laws_toDay.f (a : Int) : Option Bool := some true
theorem toDay_calls (l0 : List S74) (w : World) (hc0 : l0.length = 24) :
    Calls Try.prog 44 #[.agg (dayA l0)] w fun e w' => e = .returned (.agg (dayA l0)) ∧ Below w.heap.size w w' := by
  have hu69 := Try.underlying69
  have hu74 := Try.underlying74
  have HC0 := Aside0.mk hc0
  have hz := zeroDay
  clear hc0
  go_enter Try.func44, Try.ntmps44
  go_wp2_with (first
    | ((with_reducible refine gate_dst (N := 1) rfl ?_); refine box_event ?hg (N := 1) ?hd (cs := dayA l0) (t := 70) ?hr ?_; (case hd => rfl); (case hg => rfl); (case hr => first | (go_simp; done) | (go_simp; rfl)); intro gbD hgD W1 hboxD hbD; obtain ⟨AD, hAD⟩ : ∃ AD : Addr, AD = ⟨gbD, 0, none⟩ := ⟨_, rfl⟩; rw [← hAD]; have HR0 := Aside0.mk (show Kd.C k74 W1 (some AD) l0.length l0 from (by rw [hAD]; exact day_C hboxD HC0.out)); clear hAD; have HW := Aside0.mk hbD; have GD := Aside0.mk (show gbD < W1.heap.size from blk_lt hboxD); clear hboxD hbD hgD)
    | ((with_reducible refine gate_dst (N := 2) rfl ?_); refine box_event ?hg (N := 2) ?hd (cs := dayA (List.replicate 24 z74)) (t := 76) ?hr ?_; (case hd => rfl); (case hg => rfl); (case hr => first | (go_simp; done) | (go_simp; rfl)); intro g2 hg2 W2 hbox2 hb2; have HB2 := Aside0.mk hb2; have BK2 := Aside0.mk hbox2; have GE2 := Aside0.mk (show W1.heap.size ≤ g2 from by rw [hg2]; exact Nat.le_refl _); clear hg2 hbox2 hb2)
    | ((with_reducible refine gate_dst (N := 3) rfl ?_); refine box_event ?hg (N := 3) ?hd (cs := dayA (List.replicate 24 z74)) (t := 76) ?hr ?_; (case hd => rfl); (case hg => rfl); (case hr => first | (go_simp; done) | (go_simp; rfl)); intro g3 hg3 W3 hbox3 hb3; have HB3 := Aside0.mk hb3; have BK3 := Aside0.mk hbox3; have GE3 := Aside0.mk (show W2.heap.size ≤ g3 from by rw [hg3]; exact Nat.le_refl _); clear hg3 hbox3 hb3))
  go_loopg [4] 24 (fun gg v4 wr => ∃ k : Nat, k ≤ 24 ∧ 24 - k ≤ gg ∧ v4 = .int .i64 k ∧ Aside0 (wr.heap[g3]? = some (.cells (dayA (dayPart l0 k)) 76 (0, 0))) ∧ Aside0 (wr.heap[g2]? = some (.cells (dayA (List.replicate 24 z74)) 76 (0, 0))) ∧ Aside0 (Below W1.heap.size W1 wr))
  case atStart =>
    refine ⟨0, by omega, by omega, rfl, ⟨?_⟩, ⟨day_still BK2.out HB3.out⟩, ⟨HB2.out.trans (HB3.out.mono HB2.out.size)⟩⟩
    have e : dayPart l0 0 = List.replicate 24 z74 := by unfold dayPart; simp
    rw [e]
    exact BK3.out
  case round =>
    obtain ⟨k, hk, hg, rfl, BR3, BR2, HB⟩ := hrel
    have G3 := Aside0.mk (show g3 < wr.heap.size from blk_lt BR3.out)
    by_cases hlt : k < 24
    · have hl := HC0.out
      obtain ⟨hx0, hx1, hx2⟩ := at_day (Kd.C_below HR0.out HB.out) (k : Int) (by omega) (by omega)
      simp only [Int.toNat_natCast] at hx0 hx1 hx2
      generalize hy : rd_T74 l0 (k : Int) = y at hx0 hx1 hx2
      have HY := Aside0.mk hy
      have hp : (dayPart l0 k)[k]? = some z74 := by
        unfold dayPart
        rw [List.getElem?_append_right (by rw [List.length_take]; omega), show k - (l0.take k).length = 0 by rw [List.length_take]; omega, show 24 - k = (24 - (k + 1)) + 1 by omega, List.replicate_succ]
        rfl
      have P0 := Aside0.mk (show (dayA (dayPart l0 k))[k * 3]? = some (.int .i8 0) from dayA_get _ k _ hp 0 (by omega))
      have P1 := Aside0.mk (show (dayA (dayPart l0 k))[k * 3 + 1]? = some (.int .i8 0) from dayA_get _ k _ hp 1 (by omega))
      have P2 := Aside0.mk (show (dayA (dayPart l0 k))[k * 3 + 2]? = some (.int .i8 0) from dayA_get _ k _ hp 2 (by omega))
      clear hp hy hl
      have hltz : (k : Int) < 24 := by omega
      go_wp2_with (go_at_call 102; (with_reducible refine (laws_toWeather.calls y.f0 y.f1 y.f2 y.f0 y.f1 y.f2 _ rfl).mono ?_); rintro e w5 ⟨rfl, hb⟩; have B3 := Aside0.mk ((hb.block g3 G3.out).trans BR3.out); have c0 := (blk_cell B3.out (k * 3)).trans P0.out; have c1 := (blk_cell B3.out (k * 3 + 1)).trans P1.out; have c2 := (blk_cell B3.out (k * 3 + 2)).trans P2.out; have f0 := blk_frozen B3.out (k * 3); have f1 := blk_frozen B3.out (k * 3 + 1); have f2 := blk_frozen B3.out (k * 3 + 2); have HB' := Aside0.mk (HB.out.trans (hb.mono HB.out.size)); have B2' := Aside0.mk (day_still BR2.out hb); clear hb)
      go_roundg (24 - (k + 1))
      case measure => omega
      case rel =>
        have hl := HC0.out
        have g23 : g2 ≠ g3 := by have a := blk_lt BK2.out; have b := GE3.out; omega
        have gw : W1.heap.size ≤ g3 := by have a := HB2.out.size; have b := GE3.out; omega
        refine ⟨k + 1, by omega, by omega, by go_num, ⟨?_⟩, ⟨?_⟩, ⟨?_⟩⟩
        · have e := dayA_set (dayPart l0 k) k y (by rw [dayPart_len l0 k hl (by omega)]; omega)
          have q : y = l0[k] := by
            rw [← HY.out]
            show l0.getD (k : Int).toNat z74 = _
            rw [Int.toNat_natCast, List.getD_eq_getElem?_getD, List.getElem?_eq_getElem (by omega)]
            rfl
          have s := blk_set (blk_set (blk_set B3.out (k * 3) (.int .i8 y.f0)) (k * 3 + 1) (.int .i8 y.f1)) (k * 3 + 2) (.int .i8 y.f2)
          rw [e, q, dayPart_set l0 k hl hlt] at s
          rw [q]
          exact s
        · exact blk_far (blk_far (blk_far B2'.out (p := ⟨g3, k * 3, none⟩) g23 _) (p := ⟨g3, k * 3 + 1, none⟩) g23 _) (p := ⟨g3, k * 3 + 2, none⟩) g23 _
        · exact below_set (below_set (below_set HB'.out gw) gw) gw
    · obtain rfl : k = 24 := by omega
      have hl := HC0.out
      have hall := dayPart_all l0 hl
      have gw : W1.heap.size ≤ g2 := GE2.out
      have hi := day_info hl
      rw [hall] at BR3
      clear hall
      go_wp2_with (first
        | ((with_reducible refine gate_dst (N := 15) rfl ?_); refine wpList_load_row rfl 76 _ rfl g3 rfl 76 (dayA l0) (0, 0) _ BR3.out Try.underlying76 rfl hi ?_)
        | (refine wpList_store_row rfl 76 (.tmp 2) (.tmp 15) rfl g2 (dayA l0) rfl rfl 76 (dayA (List.replicate 24 z74)) BR2.out hi (by rw [dayA_size, dayA_size, hl]; rfl) (by rw [dayA_one]) ?_))
      refine bodyPost_ret (v := .agg (dayA l0)) (results_cell_row rfl _ _ g2 76 (dayA l0) (0, 0) _ rfl (setRow_heap _ g2 _ _ 76 (0, 0) BR2.out) Try.underlying76 rfl hi) rfl ⟨rfl, HW.out.trans ((below_setRow HB.out gw _).mono HW.out.size)⟩
end Go.Proofs.Ytggjdcijplgpdaa.D
