import Derived.Test.YthkccaclmodjiaazERisingOrderEIota
import Derived.Test.YthkccaclmodjiaazERisingOrderEPieceCode
import Derived.Test.YthkccaclmodjiaazERisingOrderESortI
import Derived.Test.YthkccaclmodjiaazERisingOrderESortLst
import Derived.Test.YthkccaclmodjiaazERisingOrderESortedBy
import Derived.Test.YthkccaclmodjiaazERisingOrderESortedV
import Derived.Test.YthkccaclmodjiaazERisingOrderI0
import Derived.Test.YthkccaclmodjiaazERisingOrderI13
import Derived.Shelf.Abstract
import Derived.RangeFuncBox
import Derived.Shelf.SlSortCmp.Insertion1
namespace Go.Proofs.Ythkccaclmodjiaa.I
open Go.RowKit Go.Proofs.YthkccaclmodjiaaW.PrintWords Go.Proofs.YthkccaclmodjiaaW.PrintLast Go.Proofs.YthkccaclmodjiaaW.PrintMore
attribute [local go_sem] max2_int min2_int max_two min_two max_three min_three max_four min_four
set_option linter.unusedVariables false
set_option linter.unusedSimpArgs false
open Go.Sort Go.Shelf Go.Lib
theorem own_R {w : World} {base n : Nat} {v : Value} {l : List Int} (hl : l.length = n) (h : w.ownsRow base 2 1 v n (l.map (Value.int .i64))) : Kd.R (Kd.int .i64) 2 w base (fun _ => True) v l :=
  ⟨fun _ _ => trivial, _, by rw [hl]; exact h, intKd_reps _⟩
theorem R_own_ints {w : World} {base : Nat} {ok : Nat → Prop} {v : Value} {l : List Int} (h : Kd.R (Kd.int .i64) 2 w base ok v l) : w.ownsRow base 2 1 v l.length (l.map (Value.int .i64)) := by
  obtain ⟨_, inner, hown, hreps⟩ := h
  obtain rfl : inner = l.map (Value.int .i64) := intKd_inner hreps
  exact hown
theorem iota_snoc (n : Nat) : iota n ++ [(n : Int)] = iota (n + 1) := by
  unfold iota
  rw [List.range_succ, List.map_append]
  rfl
theorem grown_boxed {w w' : World} {v : Value} {B : Nat} {t : TypeId} {u : Value} {n : Nat} {xs : List Value} {base : Nat} (h : Boxed w B t u) (ht : t ≠ 2) (hown : w.ownsRow base 2 1 v n xs) (hg : w.grownBy w' v.ownBlock) : Boxed w' B t u := h.kept hg (h.not_row ht hown)
theorem empty_R (W : World) {base : Nat} (hb : base ≤ W.heap.size) : Kd.R (Kd.int .i64) 2 (W.alloc (.cells #[] 2)) base (fun _ => True) (.slice (some ⟨W.heap.size, 0, none⟩) 0 0) [] :=
  ⟨fun _ _ => trivial, [], ⟨by simp, .inr ⟨W.heap.size, 0, #[], rfl, hb, World.alloc_heap_new _ _, Nat.le_refl _, by decide, rfl, rfl⟩⟩, intKd_reps []⟩
set_option maxHeartbeats 8000000 in
set_option maxRecDepth 100000 in
theorem sortedBy_calls (k : Nat) (g : Nat) (eg : ∀ args w, (callFunc g args).run Try.prog w = .ok (.enter g args) w) (key : S57 → Int) (hby : KeyOn g key) (A0 : Option Addr) (c0 : Nat) (l0 : List S57) (code : Int) (w : World) (hr0 : Kd.C k57 w A0 l0.length l0) (hc0 : l0.length ≤ c0) (hk : impl_pieceCode.f k l0 = some code) (h8 : code = 0 → l0.length ≤ 8) :
    Calls Try.prog 87 #[.slice A0 l0.length c0, .func (.func g) #[] #[]] w fun e w' => ∃ v : Value, e = .returned (.tuple #[v, .int .i64 code]) ∧ Kd.R (Kd.int .i64) 2 w' w.heap.size (fun _ => True) v (if code = 0 then sortKey key l0 else []) ∧ Below w.heap.size w w' := by
  have HR0 := Aside0.mk hr0
  have HC0 := Aside0.mk hc0
  have HK := Aside0.mk hk
  have HBY := Aside0.mk hby
  have H8 := Aside0.mk h8
  have EG := Aside0.mk eg
  clear hr0 hc0 hk hby h8 eg
  obtain ⟨W0, hW0⟩ : ∃ W0, (w.alloc (.cells #[.slice A0 l0.length c0] 33)).alloc (.cells #[.func (.func g) #[] #[]] 78) = W0 := ⟨_, rfl⟩
  have b1 : Boxed W0 w.heap.size 33 (.slice A0 l0.length c0) := by rw [← hW0]; exact (Boxed.new w _ _).alloc _
  have b2 : Boxed W0 (w.heap.size + 1) 78 (.func (.func g) #[] #[]) := by
    rw [← hW0]
    have := Boxed.new (w.alloc (.cells #[.slice A0 l0.length c0] 33)) 78 (.func (.func g) #[] #[])
    rw [World.size_alloc] at this
    exact this
  have hB0 : Below w.heap.size w W0 := by rw [← hW0]; exact ((Below.refl _ w).alloc (Nat.le_refl _) _).alloc (by simp) _
  have hs0 : W0.heap.size = w.heap.size + 2 := by rw [← hW0]; simp
  have hbp := Kd.C_below HR0.out hB0
  have HP := Aside0.mk (impl_pieceCode.calls k A0 c0 l0 code W0 hbp HC0.out HK.out)
  clear hbp
  have B1 := Aside0.mk b1
  have B2 := Aside0.mk b2
  have HB0 := Aside0.mk hB0
  have HS0 := Aside0.mk hs0
  clear hs0 b1 b2 hB0
  have cc1 := B1.out.cell
  by_cases hc : code = 0
  · have h8 := H8.out hc
    subst hc
    rw [if_pos rfl]
    have hn := HC0.out
    go_enter Try.func87, Try.ntmps87
    go_wp2_with (first
      | (go_at_call 106; refine HP.out.mono ?_; rintro e w1 ⟨rfl, hb1⟩; have HB1 := Aside0.mk (HB0.out.trans (hb1.mono HB0.out.size)); have D1 := Aside0.mk (show Boxed w1 w.heap.size 33 (.slice A0 l0.length c0) from (hb1.block _ B1.out.lt).trans B1.out); have D2 := Aside0.mk (show Boxed w1 (w.heap.size + 1) 78 (.func (.func g) #[] #[]) from (hb1.block _ B2.out.lt).trans B2.out); clear hb1 cc1; have cc1 := fun o => (D1.out.alloc o).cell)
      | (go_at_call 110; refine (impl_size_impl_Piece.calls A0 c0 l0 (l0.length : Int) _ (Kd.C_below HR0.out (below_alloc HB1.out _)) HC0.out rfl).mono ?_; rintro e w2 ⟨rfl, hb2d⟩; have hb2 : Below (w1.alloc (.cells #[] 2)).heap.size (w1.alloc (.cells #[] 2)) w2 := (by first | exact hb2d | exact hb2d.below); clear hb2d; have HB2 := Aside0.mk ((below_alloc HB1.out _).trans (hb2.mono (below_alloc HB1.out _).size)); have E1 := Aside0.mk (show Boxed w2 w.heap.size 33 (.slice A0 l0.length c0) from (hb2.block _ (D1.out.alloc _).lt).trans (D1.out.alloc _)); have E2 := Aside0.mk (show Boxed w2 (w.heap.size + 1) 78 (.func (.func g) #[] #[]) from (hb2.block _ (D2.out.alloc _).lt).trans (D2.out.alloc _)); have HO0 := Aside0.mk (Kd.R_below (empty_R w1 HB1.out.size) hb2); clear hb2 cc1))
    clear hW0
    go_loopg [7, 17] l0.length (fun gg v7 v17 wr => ∃ kk : Nat, kk ≤ l0.length ∧ l0.length - kk ≤ gg ∧ v17 = .int .i64 kk ∧ Aside0 (Below w.heap.size w wr) ∧ Aside0 (Kd.R (Kd.int .i64) 2 wr w.heap.size (fun _ => True) v7 (iota kk)) ∧ Aside0 (Boxed wr w.heap.size 33 (.slice A0 l0.length c0)) ∧ Aside0 (Boxed wr (w.heap.size + 1) 78 (.func (.func g) #[] #[])))
    case atStart => exact ⟨0, Nat.zero_le _, by omega, rfl, HB2, HO0, E1, E2⟩
    case round =>
      clear HB2 HO0 E1 E2
      obtain ⟨kk, hkk, hg, rfl, HB, HO, E1, E2⟩ := hrel
      by_cases hlt : kk < l0.length
      · have hltz : (kk : Int) < (l0.length : Int) := by omega
        have NY := Aside0.mk (iota_snoc kk)
        go_wp2_with ((with_reducible refine gate_builtin (b := .append) (xs := #[.tmp 20, .tmp 22]) rfl ?_); at_builtin; refine Kd.R_append (Kd.int .i64) (w0 := w) w.heap.size rfl (.tmp 20) (.tmp 22) 37 2 (.int .i64 0) 8 rfl Try.underlying37 info2 rfl (by decide) (by omega) u7 (iota kk) (kk : Int) [.int .i64 (kk : Int)] (fun _ => True) (fun _ => False) rfl rfl ?aP (fun _ hk => hk.elim) ?aF ?aO ?aB ?aS ?aL ?_; (case aP => exact rfl); (case aB => exact (by repeat (first | (with_reducible first | exact HB.out | apply below_alloc | apply pw_below_drewN | apply below_drew1) | exact HB.out))); (case aF => exact (fun _ _ => trivial)); (case aO => exact (by (with_reducible repeat (first | apply Kd.R_alloc | apply Kd.R_drewN | apply Kd.R_drew)); exact HO.out)); (case aS => exact (below_size (by repeat (first | (with_reducible first | exact HB.out | apply below_alloc | apply pw_below_drewN | apply below_drew1) | exact HB.out)))); (case aL => rw [iota_len]; omega); intro v446 w20 ho hb hgr hat; rw [NY.out] at ho; have G1 := Aside0.mk ((by first | exact grown_boxed E1.out (by decide) (R_own_ints HO.out) hgr | exact grown_boxed (E1.out.alloc _) (by decide) (R_own_ints (Kd.R_alloc HO.out _)) hgr : Boxed w20 _ _ _)); have G2 := Aside0.mk ((by first | exact grown_boxed E2.out (by decide) (R_own_ints HO.out) hgr | exact grown_boxed (E2.out.alloc _) (by decide) (R_own_ints (Kd.R_alloc HO.out _)) hgr : Boxed w20 _ _ _)); have HB9 := Aside0.mk hb; have HO9 := Aside0.mk ho; clear ho hb hgr hat)
        go_roundg (l0.length - (kk + 1))
        case measure => omega
        case rel => exact ⟨kk + 1, by omega, by omega, by go_num, HB9, HO9, G1, G2⟩
      · have hltz : ¬ (kk : Int) < (l0.length : Int) := by omega
        obtain rfl : kk = l0.length := by omega
        have hown := R_own_ints HO.out
        rw [iota_len] at hown
        have eg2 : ∀ args w, (callFunc 112 args).run Try.prog w = .ok (.enter 112 args) w := enters_of Try.func112 (by kernel_rfl) rfl
        have hst := stable_ints l0.length (by omega) 112 #[.pointer (some ⟨w.heap.size + 1, 0, none⟩), .pointer (some ⟨w.heap.size, 0, none⟩)] eg2 (fun i j => wrap64 (key (rd_T57 l0 (i : Int)) - key (rd_T57 l0 (j : Int)))) w.heap.size u7 wr hown (fun gb hgb i j hi hj W' hg' => by
          have n1 := E1.out.not_row (by decide) hown
          have n2 := E2.out.not_row (by decide) hown
          rw [hgb] at n1 n2
          have k1 := E1.out.kept hg' n1
          have k2 := E2.out.kept hg' n2
          have hbg := own_base hown gb hgb
          have hb' : Below w.heap.size w W' := HB.out.grown hg' HB.out.size (fun z hz => by cases hz; exact hbg)
          exact cmpOf g EG.out key HBY.out (w.heap.size + 1) w.heap.size A0 c0 l0 W' k2.lt k1.lt k2.cell k1.cell (Kd.C_below HR0.out hb') i j (by omega) (by omega))
        have HST := Aside0.mk hst
        have HOW := Aside0.mk hown
        clear hst hown eg2
        go_wp2_with (go_at_call 111; refine HST.out.mono ?_; rintro e w' ⟨rfl, hrow, hgr⟩)
        go_ret2
        refine ⟨u7, rfl, own_R (n := l0.length) (by unfold sortKey; rw [byLt_len]) ?_, HB.out.grown hgr HB.out.size (fun z hz => own_base HOW.out z hz)⟩
        exact hrow
  · have hc1 : (code == 0) = false := beq_eq_false_iff_ne.mpr hc
    have hc2 : (code != 0) = true := bne_iff_ne.mpr hc
    rw [if_neg hc]
    go_enter Try.func87, Try.ntmps87
    go_wp2_with (go_at_call 106; refine HP.out.mono ?_; rintro e w1 ⟨rfl, hb1⟩; have HB1 := Aside0.mk hb1; clear hb1)
    go_ret2
    exact ⟨.slice none 0 0, rfl, Kd.R_nil _ _ _ _ _, HB0.out.trans (HB1.out.mono HB0.out.size)⟩
end Go.Proofs.Ythkccaclmodjiaa.I
