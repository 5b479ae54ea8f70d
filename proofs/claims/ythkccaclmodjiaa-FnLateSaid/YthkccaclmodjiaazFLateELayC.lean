import Derived.Test.YthkccaclmodjiaazFLateEShort
import Derived.Test.YthkccaclmodjiaazFLateELayS
import Derived.Test.YthkccaclmodjiaazFLateESortLst
import Derived.Test.YthkccaclmodjiaazFLateI0
import Derived.Shelf.Abstract
import Derived.Shelf.SlSortCmp.Insertion1
import Derived.Lib.SlKeysI
import Derived.RangeFuncBox
import Derived.Test.YthkccaclmodjiaazFLateEPieceCode
import Derived.Test.YthkccaclmodjiaazFLateESortI
import Derived.Test.YthkccaclmodjiaazFLateEIsOrder
import Derived.Test.YthkccaclmodjiaazFLateI13
import Derived.Test.YthkccaclmodjiaaProg
import Derived.Shelf.SlicesE.Clone
section
namespace Go.Proofs.Ythkccaclmodjiaa.I
open Go.RowKit Go.Proofs.YthkccaclmodjiaaW.PrintWords Go.Proofs.YthkccaclmodjiaaW.PrintLast Go.Proofs.YthkccaclmodjiaaW.PrintMore
attribute [local go_sem] max2_int min2_int max_two min_two max_three min_three max_four min_four
set_option linter.unusedVariables false
set_option linter.unusedSimpArgs false
open Go.Sort Go.Shelf Go.Lib
def KeyOn (g : Nat) (key : S57 → Int) : Prop := ∀ (x : S57) (W : World), Calls Try.prog g #[.agg #[.int .i8 x.f0, .int .i8 x.f1, .int .i16 x.f2]] W fun e w' => e = .returned (.int .i64 (key x)) ∧ ∃ q os, w' = grow (W.drewN q) os
set_option maxHeartbeats 2000000 in
theorem dueKey : KeyOn 88 (fun x => wrap64 x.f2) := by
 intro x W
 go_enter Try.func88, Try.ntmps88
 go_wp2
 go_ret
 exact ⟨rfl, 0, _, by rw [alloc_eq_grow]; rfl⟩
theorem below_grow (W : World) (n : Nat) (os : Array Obj) : Below W.heap.size W (grow (W.drewN n) os) :=
 ⟨rfl, rfl, rfl, by simp [grow, World.drewN], fun k hk => by rw [Go.Sort.heap_grow_old _ _ (by simpa [World.drewN] using hk)]; rfl⟩
set_option maxHeartbeats 8000000 in
set_option maxRecDepth 100000 in
theorem cmpOf (g : Nat) (eg : ∀ args w, (callFunc g args).run Try.prog w = .ok (.enter g args) w) (key : S57 → Int) (hby : KeyOn g key) (Bb Bl : Nat) (A0 : Option Addr) (c0 : Nat) (l0 : List S57) (W : World)
 (h1 : Bb < W.heap.size) (h2 : Bl < W.heap.size) (f1 : W.cell? ⟨Bb, 0, none⟩ = some (.func (.func g) #[] #[])) (f2 : W.cell? ⟨Bl, 0, none⟩ = some (.slice A0 l0.length c0)) (hr : Kd.C k57 W A0 l0.length l0) (i j : Nat) (hi : i < l0.length) (hj : j < l0.length) :
 Calls Try.prog 112 #[.int .i64 (i : Int), .int .i64 (j : Int), .pointer (some ⟨Bb, 0, none⟩), .pointer (some ⟨Bl, 0, none⟩)] W fun e w' => e = .returned (.int .i64 (wrap64 (key (rd_T57 l0 (i : Int)) - key (rd_T57 l0 (j : Int))))) ∧ ∃ q os, w' = grow (W.drewN q) os := by
 have hu57 := Try.underlying57
 have mixed : Try.prog.follows .mixedOrders = true := by kernel_rfl
 obtain ⟨ad, ea, _⟩ := at_T57 hr (i : Int) (by omega) (by omega)
 subst ea
 have hB := below_grow W
 have F1 : ∀ n os, (grow (W.drewN n) os).cell? ⟨Bb, 0, none⟩ = some (.func (.func g) #[] #[]) := fun n os => cell_grown h1 f1 n os
 have F2 : ∀ n os, (grow (W.drewN n) os).cell? ⟨Bl, 0, none⟩ = some (.slice (some ad) l0.length c0) := fun n os => cell_grown h2 f2 n os
 have XI : ∀ n os, (grow (W.drewN n) os).cell? (ad.add (i * 3)) = some (.int .i8 (rd_T57 l0 (i : Int)).f0) ∧ (grow (W.drewN n) os).cell? ⟨(ad.add (i * 3)).block, (ad.add (i * 3)).off + 1, none⟩ = some (.int .i8 (rd_T57 l0 (i : Int)).f1) ∧ (grow (W.drewN n) os).cell? ⟨(ad.add (i * 3)).block, (ad.add (i * 3)).off + 2, none⟩ = some (.int .i16 (rd_T57 l0 (i : Int)).f2) := fun n os => by
  obtain ⟨ad', e, x0, x1, x2⟩ := at_T57 (Kd.C_below hr (hB n os)) (i : Int) (by omega) (by omega)
  cases e
  rw [Int.toNat_natCast] at x0 x1 x2
  exact ⟨x0, x1, x2⟩
 have XJ : ∀ n os, (grow (W.drewN n) os).cell? (ad.add (j * 3)) = some (.int .i8 (rd_T57 l0 (j : Int)).f0) ∧ (grow (W.drewN n) os).cell? ⟨(ad.add (j * 3)).block, (ad.add (j * 3)).off + 1, none⟩ = some (.int .i8 (rd_T57 l0 (j : Int)).f1) ∧ (grow (W.drewN n) os).cell? ⟨(ad.add (j * 3)).block, (ad.add (j * 3)).off + 2, none⟩ = some (.int .i16 (rd_T57 l0 (j : Int)).f2) := fun n os => by
  obtain ⟨ad', e, x0, x1, x2⟩ := at_T57 (Kd.C_below hr (hB n os)) (j : Int) (by omega) (by omega)
  cases e
  rw [Int.toNat_natCast] at x0 x1 x2
  exact ⟨x0, x1, x2⟩
 have I0 := fun n os => (XI n os).1
 have I1 := fun n os => (XI n os).2.1
 have I2 := fun n os => (XI n os).2.2
 have J0 := fun n os => (XJ n os).1
 have J1 := fun n os => (XJ n os).2.1
 have J2 := fun n os => (XJ n os).2.2
 have hiz : (i : Int) < (l0.length : Int) := by omega
 have hjz : (j : Int) < (l0.length : Int) := by omega
 clear XI XJ hr f1 f2
 generalize rd_T57 l0 (i : Int) = X at *
 generalize rd_T57 l0 (j : Int) = Y at *
 have HK := Aside0.mk hby
 clear hby
 go_enter Try.func112, Try.ntmps112
 go_wp2
 go_quiet_grown (first | (go_at_fn g; refine Calls.grown_of (HK.out _ _)))
 go_wp2
 go_ret
 exact ⟨by rw [← i64_w]; rfl, _, _, rfl⟩
def sortKey (key : S57 → Int) (l : List S57) : List Int := byLt (fun a b => decide (wrap64 (key (rd_T57 l ((a.toNat : Nat) : Int)) - key (rd_T57 l ((b.toNat : Nat) : Int))) < 0)) l.length
theorem putRow_fin {n : Nat} [Inhabited (Fin n)] (W : World) (gb : Nat) (dk : Array (Fin n)) : putRow (encF (n := n)) W gb 0 dk = putRow encZ W gb 0 (dk.toList.map (fun x => (x.1 : Int))).toArray := by
 unfold putRow
 congr 1
 funext c
 unfold putCells
 congr 1
 funext k x
 simp only [List.size_toArray, List.length_map, Array.length_toList, Nat.sub_zero, Nat.zero_add]
 by_cases h : k < dk.size
 · simp [h, encF, encZ]
 · simp [h]
theorem sw_own {n : Nat} [Inhabited (Fin n)] {gb cap base : Nat} {W w' : World} {cur : Array Value} (dk : Array (Fin n)) (hsz : dk.size = n) (hgb : W.heap[gb]? = some (.cells cur 2 (0, 0))) (hbase : base ≤ gb) (r1 : n ≤ cap) (r2 : cap ≤ maxLen) (r3 : cur.size = cap * 1)
 (h : SW (encF (n := n)) W gb 0 dk w') : w'.ownsRow base 2 1 (.slice (some ⟨gb, 0, none⟩) n cap) n ((dk.toList.map (fun x => (x.1 : Int))).map (Value.int .i64)) ∧ W.grownBy w' (some gb) := by
 obtain ⟨q, os, rfl⟩ := h
 unfold sortWorld
 rw [putRow_fin]
 have hl : (dk.toList.map (fun x => (x.1 : Int))).length = n := by simp [hsz]
 have := ownsRow_sorted_i (w := W) (n := q) (os := os) (ss := dk.toList.map (fun x => (x.1 : Int))) (ts := dk.toList.map (fun x => (x.1 : Int))) rfl hbase hgb (by rw [hl]; exact r1) r2 r3
 rw [hl] at this
 exact ⟨this, grownBy_sorted_i _⟩
theorem stable_ints (n : Nat) (hn : n ≤ 19) (g : Nat) (cb : Array Value) (eg : ∀ args w, (callFunc g args).run Try.prog w = .ok (.enter g args) w) (cf : Nat → Nat → Int) (base : Nat) (v : Value) (W : World)
 (hown : W.ownsRow base 2 1 v n ((iota n).map (Value.int .i64))) (hc : ∀ gb, v.ownBlock = some gb → CmpOn g cb cf n gb W) :
 Calls Try.prog 111 #[v, .func (.func g) #[] cb] W fun e w' => e = .returned (.tuple #[]) ∧ w'.ownsRow base 2 1 v n ((byLt (fun a b => decide (cf a.toNat b.toNat < 0)) n).map (Value.int .i64)) ∧ W.grownBy w' v.ownBlock := by
 cases n with
 | zero =>
  have hb : byLt (fun a b => decide (cf a.toNat b.toNat < 0)) 0 = [] := rfl
  have hi : iota 0 = [] := rfl
  rw [hb]
  rw [hi] at hown
  obtain ⟨A, cap, rfl⟩ : ∃ A cap, v = .slice A 0 cap := by
   rcases hown.2 with ⟨rfl, _⟩ | ⟨gb, cap, cur, rfl, _⟩
   · exact ⟨_, _, rfl⟩
   · exact ⟨_, _, rfl⟩
  refine (stable_none g cb A cap W).mono ?_
  rintro e w' ⟨rfl, rfl⟩
  exact ⟨rfl, hown, rfl, rfl, rfl, Nat.le_refl _, fun _ _ _ => rfl⟩
 | succ m =>
  rcases hown.2 with ⟨rfl, hz⟩ | ⟨gb, cap, cur, rfl, hbase, hgb, r1, r2, r3, r4⟩
  · cases hz
  · have hgl : gb < W.heap.size := (Array.getElem?_eq_some_iff.1 hgb).1
    have hH0 : Holds encZ W gb 0 (iota (m + 1)).toArray := holds_of_block_i hgb (by rw [iota_len]; rw [Nat.mul_one] at r4; exact r4)
    have hH : Holds (encF (n := m + 1)) W gb 0 (dF (m + 1)) := by
     intro j hj
     rw [dF_size] at hj
     have := hH0 j (by simp [iota_len]; exact hj)
     refine ⟨?_, this.2⟩
     rw [this.1]
     have e1 : (iota (m + 1)).toArray[j]! = (j : Int) := by
      rw [getElem!_pos _ _ (by simp [iota_len]; exact hj)]
      simp [iota]
     have e2 : (dF (m + 1))[j]! = (⟨j, hj⟩ : Fin (m + 1)) := by
      rw [getElem!_pos _ _ (by rw [dF_size]; exact hj)]
      simp only [dF, Array.getElem_ofFn]
     rw [e1, e2]
     rfl
    refine (stable_some m hn g cb eg cf gb cap W hgl hH (hc gb (by simp [Value.ownBlock]))).mono ?_
    rintro e w' ⟨rfl, hw⟩
    have hsz : (Sort.insertionSort (ltOf fun a b : Fin (m + 1) => cf a.1 b.1) (dF (m + 1)) 0 (m + 1)).size = m + 1 := by
     have := congrArg List.length (sorted_fin m (ltOf fun a b : Fin (m + 1) => cf a.1 b.1) (fun a b => decide (cf a.toNat b.toNat < 0)) (fun a b => by simp [ltOf]))
     rw [List.length_map, byLt_len] at this
     exact this
    obtain ⟨h1, h2⟩ := sw_own _ hsz hgb hbase r1 r2 r3 hw
    rw [sorted_fin m (ltOf fun a b : Fin (m + 1) => cf a.1 b.1) (fun a b => decide (cf a.toNat b.toNat < 0)) (fun a b => by simp [ltOf])] at h1
    exact ⟨rfl, h1, by simpa [Value.ownBlock] using h2⟩
end Go.Proofs.Ythkccaclmodjiaa.I
end
section
namespace Go.Proofs.Ythkccaclmodjiaa.I
open Go.RowKit Go.Proofs.YthkccaclmodjiaaW.PrintWords Go.Proofs.YthkccaclmodjiaaW.PrintLast Go.Proofs.YthkccaclmodjiaaW.PrintMore
attribute [local go_sem] max2_int min2_int max_two min_two max_three min_three max_four min_four
set_option linter.unusedVariables false
set_option linter.unusedSimpArgs false
open Go.Sort Go.Shelf Go.Lib
theorem own_R {w : World} {base n : Nat} {v : Value} {l : List Int} (hl : l.length = n) (h : w.ownsRow base 2 1 v n (l.map (Value.int .i64))) : Kd.R (Kd.int .i64) 2 w base (fun _ => True) v l :=
 ⟨fun _ _ => trivial, _, by rw [hl]; exact h, intKd_reps _⟩
theorem R_own_ints {w : World} {base : Nat} {ok : Nat → Prop} {v : Value} {l : List Int} (h : Kd.R (Kd.int .i64) 2 w base ok v l) : w.ownsRow base 2 1 v l.length (l.map (Value.int .i64)) := by
 obtain ⟨_, inner, hown, hreps⟩ := h
 obtain rfl : inner = l.map (Value.int .i64) := intKd_inner hreps
 exact hown
theorem iota_snoc (n : Nat) : iota n ++ [(n : Int)] = iota (n + 1) := by
 unfold iota
 rw [List.range_succ, List.map_append]
 rfl
theorem grown_boxed {w w' : World} {v : Value} {B : Nat} {t : TypeId} {u : Value} {n : Nat} {xs : List Value} {base : Nat} (h : Boxed w B t u) (ht : t ≠ 2) (hown : w.ownsRow base 2 1 v n xs) (hg : w.grownBy w' v.ownBlock) : Boxed w' B t u := h.kept hg (h.not_row ht hown)
theorem empty_R (W : World) {base : Nat} (hb : base ≤ W.heap.size) : Kd.R (Kd.int .i64) 2 (W.alloc (.cells #[] 2)) base (fun _ => True) (.slice (some ⟨W.heap.size, 0, none⟩) 0 0) [] :=
 ⟨fun _ _ => trivial, [], ⟨by simp, .inr ⟨W.heap.size, 0, #[], rfl, hb, World.alloc_heap_new _ _, Nat.le_refl _, by decide, rfl, rfl⟩⟩, intKd_reps []⟩
set_option maxHeartbeats 8000000 in
set_option maxRecDepth 100000 in
theorem sortedBy_calls (k : Nat) (g : Nat) (eg : ∀ args w, (callFunc g args).run Try.prog w = .ok (.enter g args) w) (key : S57 → Int) (hby : KeyOn g key) (A0 : Option Addr) (c0 : Nat) (l0 : List S57) (code : Int) (w : World) (hr0 : Kd.C k57 w A0 l0.length l0) (hc0 : l0.length ≤ c0) (hk : impl_pieceCode.f k l0 = some code) (h8 : code = 0 → l0.length ≤ 8) :
 Calls Try.prog 87 #[.slice A0 l0.length c0, .func (.func g) #[] #[]] w fun e w' => ∃ v : Value, e = .returned (.tuple #[v, .int .i64 code]) ∧ Kd.R (Kd.int .i64) 2 w' w.heap.size (fun _ => True) v (if code = 0 then sortKey key l0 else []) ∧ Below w.heap.size w w' := by
 have HR0 := Aside0.mk hr0
 have HC0 := Aside0.mk hc0
 have HK := Aside0.mk hk
 have HBY := Aside0.mk hby
 have H8 := Aside0.mk h8
 have EG := Aside0.mk eg
 clear hr0 hc0 hk hby h8 eg
 obtain ⟨W0, hW0⟩ : ∃ W0, (w.alloc (.cells #[.slice A0 l0.length c0] 33)).alloc (.cells #[.func (.func g) #[] #[]] 78) = W0 := ⟨_, rfl⟩
 have b1 : Boxed W0 w.heap.size 33 (.slice A0 l0.length c0) := by rw [← hW0]; exact (Boxed.new w _ _).alloc _
 have b2 : Boxed W0 (w.heap.size + 1) 78 (.func (.func g) #[] #[]) := by
  rw [← hW0]
  have := Boxed.new (w.alloc (.cells #[.slice A0 l0.length c0] 33)) 78 (.func (.func g) #[] #[])
  rw [World.size_alloc] at this
  exact this
 have hB0 : Below w.heap.size w W0 := by rw [← hW0]; exact ((Below.refl _ w).alloc (Nat.le_refl _) _).alloc (by simp) _
 have hs0 : W0.heap.size = w.heap.size + 2 := by rw [← hW0]; simp
 have hbp := Kd.C_below HR0.out hB0
 have HP := Aside0.mk (impl_pieceCode.calls k A0 c0 l0 code W0 hbp HC0.out HK.out)
 clear hbp
 have B1 := Aside0.mk b1
 have B2 := Aside0.mk b2
 have HB0 := Aside0.mk hB0
 have HS0 := Aside0.mk hs0
 clear hs0 b1 b2 hB0
 have cc1 := B1.out.cell
 by_cases hc : code = 0
 · have h8 := H8.out hc
   subst hc
   rw [if_pos rfl]
   have hn := HC0.out
   go_enter Try.func87, Try.ntmps87
   go_wp2_with (first
    | (go_at_call 106; refine HP.out.mono ?_; rintro e w1 ⟨rfl, hb1⟩; have HB1 := Aside0.mk (HB0.out.trans (hb1.mono HB0.out.size)); have D1 := Aside0.mk (show Boxed w1 w.heap.size 33 (.slice A0 l0.length c0) from (hb1.block _ B1.out.lt).trans B1.out); have D2 := Aside0.mk (show Boxed w1 (w.heap.size + 1) 78 (.func (.func g) #[] #[]) from (hb1.block _ B2.out.lt).trans B2.out); clear hb1 cc1; have cc1 := fun o => (D1.out.alloc o).cell)
    | (go_at_call 110; refine (impl_size_impl_Piece.calls A0 c0 l0 (l0.length : Int) _ (Kd.C_below HR0.out (below_alloc HB1.out _)) HC0.out rfl).mono ?_; rintro e w2 ⟨rfl, hb2d⟩; have hb2 : Below (w1.alloc (.cells #[] 2)).heap.size (w1.alloc (.cells #[] 2)) w2 := (by first | exact hb2d | exact hb2d.below); clear hb2d; have HB2 := Aside0.mk ((below_alloc HB1.out _).trans (hb2.mono (below_alloc HB1.out _).size)); have E1 := Aside0.mk (show Boxed w2 w.heap.size 33 (.slice A0 l0.length c0) from (hb2.block _ (D1.out.alloc _).lt).trans (D1.out.alloc _)); have E2 := Aside0.mk (show Boxed w2 (w.heap.size + 1) 78 (.func (.func g) #[] #[]) from (hb2.block _ (D2.out.alloc _).lt).trans (D2.out.alloc _)); have HO0 := Aside0.mk (Kd.R_below (empty_R w1 HB1.out.size) hb2); clear hb2 cc1))
   clear hW0
   go_loopg [7, 17] l0.length (fun gg v7 v17 wr => ∃ kk : Nat, kk ≤ l0.length ∧ l0.length - kk ≤ gg ∧ v17 = .int .i64 kk ∧ Aside0 (Below w.heap.size w wr) ∧ Aside0 (Kd.R (Kd.int .i64) 2 wr w.heap.size (fun _ => True) v7 (iota kk)) ∧ Aside0 (Boxed wr w.heap.size 33 (.slice A0 l0.length c0)) ∧ Aside0 (Boxed wr (w.heap.size + 1) 78 (.func (.func g) #[] #[])))
   case atStart => exact ⟨0, Nat.zero_le _, by omega, rfl, HB2, HO0, E1, E2⟩
   case round =>
    clear HB2 HO0 E1 E2
    obtain ⟨kk, hkk, hg, rfl, HB, HO, E1, E2⟩ := hrel
    by_cases hlt : kk < l0.length
    · have hltz : (kk : Int) < (l0.length : Int) := by omega
      have NY := Aside0.mk (iota_snoc kk)
      go_wp2_with ((with_reducible refine gate_builtin (b := .append) (xs := #[.tmp 20, .tmp 22]) rfl ?_); at_builtin; refine Kd.R_append (Kd.int .i64) (w0 := w) w.heap.size rfl (.tmp 20) (.tmp 22) 37 2 (.int .i64 0) 8 rfl Try.underlying37 info2 rfl (by decide) (by omega) u7 (iota kk) (kk : Int) [.int .i64 (kk : Int)] (fun _ => True) (fun _ => False) rfl rfl ?aP (fun _ hk => hk.elim) ?aF ?aO ?aB ?aS ?aL ?_; (case aP => exact rfl); (case aB => exact (blB HB)); (case aF => exact (fun _ _ => trivial)); (case aO => exact (mvR HO)); (case aS => exact (below_size (blB HB))); (case aL => rw [iota_len]; omega); intro v446 w20 ho hb hgr hat; rw [NY.out] at ho; have G1 := Aside0.mk ((by first | exact grown_boxed E1.out (by decide) (R_own_ints HO.out) hgr | exact grown_boxed (E1.out.alloc _) (by decide) (R_own_ints (Kd.R_alloc HO.out _)) hgr : Boxed w20 _ _ _)); have G2 := Aside0.mk ((by first | exact grown_boxed E2.out (by decide) (R_own_ints HO.out) hgr | exact grown_boxed (E2.out.alloc _) (by decide) (R_own_ints (Kd.R_alloc HO.out _)) hgr : Boxed w20 _ _ _)); have HB9 := Aside0.mk hb; have HO9 := Aside0.mk ho; clear ho hb hgr hat)
      go_roundg (l0.length - (kk + 1))
      case measure => omega
      case rel => exact ⟨kk + 1, by omega, by omega, by go_num, HB9, HO9, G1, G2⟩
    · have hltz : ¬ (kk : Int) < (l0.length : Int) := by omega
      obtain rfl : kk = l0.length := by omega
      have hown := R_own_ints HO.out
      rw [iota_len] at hown
      have eg2 : ∀ args w, (callFunc 112 args).run Try.prog w = .ok (.enter 112 args) w := enters_of Try.func112 (by kernel_rfl) rfl
      have hst := stable_ints l0.length (by omega) 112 #[.pointer (some ⟨w.heap.size + 1, 0, none⟩), .pointer (some ⟨w.heap.size, 0, none⟩)] eg2 (fun i j => wrap64 (key (rd_T57 l0 (i : Int)) - key (rd_T57 l0 (j : Int)))) w.heap.size u7 wr hown (fun gb hgb i j hi hj W' hg' => by
       have n1 := E1.out.not_row (by decide) hown
       have n2 := E2.out.not_row (by decide) hown
       rw [hgb] at n1 n2
       have k1 := E1.out.kept hg' n1
       have k2 := E2.out.kept hg' n2
       have hbg := own_base hown gb hgb
       have hb' : Below w.heap.size w W' := HB.out.grown hg' HB.out.size (fun z hz => by cases hz; exact hbg)
       exact cmpOf g EG.out key HBY.out (w.heap.size + 1) w.heap.size A0 c0 l0 W' k2.lt k1.lt k2.cell k1.cell (Kd.C_below HR0.out hb') i j (by omega) (by omega))
      have HST := Aside0.mk hst
      have HOW := Aside0.mk hown
      clear hst hown eg2
      go_wp2_with (go_at_call 111; refine HST.out.mono ?_; rintro e w' ⟨rfl, hrow, hgr⟩)
      go_ret2
      refine ⟨u7, rfl, own_R (n := l0.length) (by unfold sortKey; rw [byLt_len]) ?_, HB.out.grown hgr HB.out.size (fun z hz => own_base HOW.out z hz)⟩
      exact hrow
 · have hc1 : (code == 0) = false := beq_eq_false_iff_ne.mpr hc
   have hc2 : (code != 0) = true := bne_iff_ne.mpr hc
   rw [if_neg hc]
   go_enter Try.func87, Try.ntmps87
   go_wp2_with (go_at_call 106; refine HP.out.mono ?_; rintro e w1 ⟨rfl, hb1⟩; have HB1 := Aside0.mk hb1; clear hb1)
   go_ret2
   exact ⟨.slice none 0 0, rfl, Kd.R_nil _ _ _ _ _, HB0.out.trans (HB1.out.mono HB0.out.size)⟩
end Go.Proofs.Ythkccaclmodjiaa.I
end
section
namespace Go.Proofs
open Go.Shelf
def Try.cloneA_ren : Go.Shelf.Ren := ⟨fun | 41 => 123 | n => n, fun | 22 => 37 | 23 => 2 | 4 => 4 | n => n, fun | n => n⟩
theorem Try.cloneA : Go.Proofs.SlLaysE0.n41 Try.prog Try.cloneA_ren := {
 mixed := by kernel_rfl
 f41 := ⟨Try.f123.name, by decide, Try.func123.trans (congrArg some (by kernel_rfl))⟩
 t4 := Try.underlying4
 a4 := Try.isAgg4
 z4 := Try.sizeOf4
 v4 := Try.zeroValue4
 t22 := Try.underlying37
 a22 := Try.isAgg37
 z22 := Try.sizeOf37
 v22 := Try.zeroValue37 }
end Go.Proofs
end
