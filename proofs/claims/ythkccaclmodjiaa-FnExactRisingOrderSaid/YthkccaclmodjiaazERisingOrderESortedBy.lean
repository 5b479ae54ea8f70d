import Derived.Test.YthkccaclmodjiaazERisingOrderEIota
import Derived.Test.YthkccaclmodjiaazERisingOrderESortLst
import Derived.Test.YthkccaclmodjiaazERisingOrderESortStab
import Derived.Test.YthkccaclmodjiaazERisingOrderI0
import Derived.Shelf.Abstract
import Derived.Shelf.SlSortCmp.Insertion1
import Derived.Lib.SlKeysI
import Derived.RangeFuncBox
namespace Go.Proofs.Ythkccaclmodjiaa.I
open Go.RowKit Go.Proofs.YthkccaclmodjiaaW.PrintWords Go.Proofs.YthkccaclmodjiaaW.PrintLast Go.Proofs.YthkccaclmodjiaaW.PrintMore
attribute [local go_sem] max2_int min2_int max_two min_two max_three min_three max_four min_four
set_option linter.unusedVariables false
set_option linter.unusedSimpArgs false
open Go.Sort Go.Shelf Go.Lib
def KeyOn (g : Nat) (key : S57 → Int) : Prop := ∀ (x : S57) (W : World), Calls Try.prog g #[.agg #[.int .i8 x.f0, .int .i8 x.f1, .int .i16 x.f2]] W fun e w' => e = .returned (.int .i64 (key x)) ∧ ∃ q os, w' = grow (W.drewN q) os
set_option maxHeartbeats 2000000 in
theorem levelKey : KeyOn 89 (fun x => wrap64 x.f0) := by
  intro x W
  go_enter Try.func89, Try.ntmps89
  go_wp2
  go_ret
  exact ⟨rfl, 0, _, by rw [alloc_eq_grow]; rfl⟩
theorem below_grow (W : World) (n : Nat) (os : Array Obj) : Below W.heap.size W (grow (W.drewN n) os) :=
  ⟨rfl, rfl, rfl, by simp [grow, World.drewN], fun k hk => by rw [Go.Sort.heap_grow_old _ _ (by simpa [World.drewN] using hk)]; rfl⟩
set_option maxHeartbeats 8000000 in
set_option maxRecDepth 100000 in
theorem cmpOf (g : Nat) (eg : ∀ args w, (callFunc g args).run Try.prog w = .ok (.enter g args) w) (key : S57 → Int) (hby : KeyOn g key) (Bb Bl : Nat) (A0 : Option Addr) (c0 : Nat) (l0 : List S57) (W : World)
    (h1 : Bb < W.heap.size) (h2 : Bl < W.heap.size) (f1 : W.cell? ⟨Bb, 0, none⟩ = some (.func (.func g) #[] #[])) (f2 : W.cell? ⟨Bl, 0, none⟩ = some (.slice A0 l0.length c0)) (hr : Kd.C k57 W A0 l0.length l0) (i j : Nat) (hi : i < l0.length) (hj : j < l0.length) :
    Calls Try.prog 112 #[.int .i64 (i : Int), .int .i64 (j : Int), .pointer (some ⟨Bb, 0, none⟩), .pointer (some ⟨Bl, 0, none⟩)] W fun e w' => e = .returned (.int .i64 (wrap64 (key (rd_T57 l0 (i : Int)) - key (rd_T57 l0 (j : Int))))) ∧ ∃ q os, w' = grow (W.drewN q) os := by
  have hu57 := Try.underlying57
  have mixed : Try.prog.follows .mixedOrders = true := by kernel_rfl
  obtain ⟨ad, ea, _⟩ := at_T57 hr (i : Int) (by omega) (by omega)
  subst ea
  have hB := below_grow W
  have F1 : ∀ n os, (grow (W.drewN n) os).cell? ⟨Bb, 0, none⟩ = some (.func (.func g) #[] #[]) := fun n os => cell_grown h1 f1 n os
  have F2 : ∀ n os, (grow (W.drewN n) os).cell? ⟨Bl, 0, none⟩ = some (.slice (some ad) l0.length c0) := fun n os => cell_grown h2 f2 n os
  have XI : ∀ n os, (grow (W.drewN n) os).cell? (ad.add (i * 3)) = some (.int .i8 (rd_T57 l0 (i : Int)).f0) ∧ (grow (W.drewN n) os).cell? ⟨(ad.add (i * 3)).block, (ad.add (i * 3)).off + 1, none⟩ = some (.int .i8 (rd_T57 l0 (i : Int)).f1) ∧ (grow (W.drewN n) os).cell? ⟨(ad.add (i * 3)).block, (ad.add (i * 3)).off + 2, none⟩ = some (.int .i16 (rd_T57 l0 (i : Int)).f2) := fun n os => by
    obtain ⟨ad', e, x0, x1, x2⟩ := at_T57 (Kd.C_below hr (hB n os)) (i : Int) (by omega) (by omega)
    cases e
    rw [Int.toNat_natCast] at x0 x1 x2
    exact ⟨x0, x1, x2⟩
  have XJ : ∀ n os, (grow (W.drewN n) os).cell? (ad.add (j * 3)) = some (.int .i8 (rd_T57 l0 (j : Int)).f0) ∧ (grow (W.drewN n) os).cell? ⟨(ad.add (j * 3)).block, (ad.add (j * 3)).off + 1, none⟩ = some (.int .i8 (rd_T57 l0 (j : Int)).f1) ∧ (grow (W.drewN n) os).cell? ⟨(ad.add (j * 3)).block, (ad.add (j * 3)).off + 2, none⟩ = some (.int .i16 (rd_T57 l0 (j : Int)).f2) := fun n os => by
    obtain ⟨ad', e, x0, x1, x2⟩ := at_T57 (Kd.C_below hr (hB n os)) (j : Int) (by omega) (by omega)
    cases e
    rw [Int.toNat_natCast] at x0 x1 x2
    exact ⟨x0, x1, x2⟩
  have I0 := fun n os => (XI n os).1
  have I1 := fun n os => (XI n os).2.1
  have I2 := fun n os => (XI n os).2.2
  have J0 := fun n os => (XJ n os).1
  have J1 := fun n os => (XJ n os).2.1
  have J2 := fun n os => (XJ n os).2.2
  have hiz : (i : Int) < (l0.length : Int) := by omega
  have hjz : (j : Int) < (l0.length : Int) := by omega
  clear XI XJ hr f1 f2
  generalize rd_T57 l0 (i : Int) = X at *
  generalize rd_T57 l0 (j : Int) = Y at *
  have HK := Aside0.mk hby
  clear hby
  go_enter Try.func112, Try.ntmps112
  go_wp2
  go_quiet_grown (first | (go_at_fn g; refine Calls.grown_of (HK.out _ _)))
  go_wp2
  go_ret
  exact ⟨by rw [← i64_w]; rfl, _, _, rfl⟩
def sortKey (key : S57 → Int) (l : List S57) : List Int := byLt (fun a b => decide (wrap64 (key (rd_T57 l ((a.toNat : Nat) : Int)) - key (rd_T57 l ((b.toNat : Nat) : Int))) < 0)) l.length
theorem putRow_fin {n : Nat} [Inhabited (Fin n)] (W : World) (gb : Nat) (dk : Array (Fin n)) : putRow (encF (n := n)) W gb 0 dk = putRow encZ W gb 0 (dk.toList.map (fun x => (x.1 : Int))).toArray := by
  unfold putRow
  congr 1
  funext c
  unfold putCells
  congr 1
  funext k x
  simp only [List.size_toArray, List.length_map, Array.length_toList, Nat.sub_zero, Nat.zero_add]
  by_cases h : k < dk.size
  · simp [h, encF, encZ]
  · simp [h]
theorem sw_own {n : Nat} [Inhabited (Fin n)] {gb cap base : Nat} {W w' : World} {cur : Array Value} (dk : Array (Fin n)) (hsz : dk.size = n) (hgb : W.heap[gb]? = some (.cells cur 2 (0, 0))) (hbase : base ≤ gb) (r1 : n ≤ cap) (r2 : cap ≤ maxLen) (r3 : cur.size = cap * 1)
    (h : SW (encF (n := n)) W gb 0 dk w') : w'.ownsRow base 2 1 (.slice (some ⟨gb, 0, none⟩) n cap) n ((dk.toList.map (fun x => (x.1 : Int))).map (Value.int .i64)) ∧ W.grownBy w' (some gb) := by
  obtain ⟨q, os, rfl⟩ := h
  unfold sortWorld
  rw [putRow_fin]
  have hl : (dk.toList.map (fun x => (x.1 : Int))).length = n := by simp [hsz]
  have := ownsRow_sorted_i (w := W) (n := q) (os := os) (ss := dk.toList.map (fun x => (x.1 : Int))) (ts := dk.toList.map (fun x => (x.1 : Int))) rfl hbase hgb (by rw [hl]; exact r1) r2 r3
  rw [hl] at this
  exact ⟨this, grownBy_sorted_i _⟩
theorem stable_ints (n : Nat) (hn : n ≤ 19) (g : Nat) (cb : Array Value) (eg : ∀ args w, (callFunc g args).run Try.prog w = .ok (.enter g args) w) (cf : Nat → Nat → Int) (base : Nat) (v : Value) (W : World)
    (hown : W.ownsRow base 2 1 v n ((iota n).map (Value.int .i64))) (hc : ∀ gb, v.ownBlock = some gb → CmpOn g cb cf n gb W) :
    Calls Try.prog 111 #[v, .func (.func g) #[] cb] W fun e w' => e = .returned (.tuple #[]) ∧ w'.ownsRow base 2 1 v n ((byLt (fun a b => decide (cf a.toNat b.toNat < 0)) n).map (Value.int .i64)) ∧ W.grownBy w' v.ownBlock := by
  cases n with
  | zero =>
    have hb : byLt (fun a b => decide (cf a.toNat b.toNat < 0)) 0 = [] := rfl
    have hi : iota 0 = [] := rfl
    rw [hb]
    rw [hi] at hown
    obtain ⟨A, cap, rfl⟩ : ∃ A cap, v = .slice A 0 cap := by
      rcases hown.2 with ⟨rfl, _⟩ | ⟨gb, cap, cur, rfl, _⟩
      · exact ⟨_, _, rfl⟩
      · exact ⟨_, _, rfl⟩
    refine (stable_none g cb A cap W).mono ?_
    rintro e w' ⟨rfl, rfl⟩
    exact ⟨rfl, hown, rfl, rfl, rfl, Nat.le_refl _, fun _ _ _ => rfl⟩
  | succ m =>
    rcases hown.2 with ⟨rfl, hz⟩ | ⟨gb, cap, cur, rfl, hbase, hgb, r1, r2, r3, r4⟩
    · cases hz
    · have hgl : gb < W.heap.size := (Array.getElem?_eq_some_iff.1 hgb).1
      have hH0 : Holds encZ W gb 0 (iota (m + 1)).toArray := holds_of_block_i hgb (by rw [iota_len]; rw [Nat.mul_one] at r4; exact r4)
      have hH : Holds (encF (n := m + 1)) W gb 0 (dF (m + 1)) := by
        intro j hj
        rw [dF_size] at hj
        have := hH0 j (by simp [iota_len]; exact hj)
        refine ⟨?_, this.2⟩
        rw [this.1]
        have e1 : (iota (m + 1)).toArray[j]! = (j : Int) := by
          rw [getElem!_pos _ _ (by simp [iota_len]; exact hj)]
          simp [iota]
        have e2 : (dF (m + 1))[j]! = (⟨j, hj⟩ : Fin (m + 1)) := by
          rw [getElem!_pos _ _ (by rw [dF_size]; exact hj)]
          simp only [dF, Array.getElem_ofFn]
        rw [e1, e2]
        rfl
      refine (stable_some m hn g cb eg cf gb cap W hgl hH (hc gb (by simp [Value.ownBlock]))).mono ?_
      rintro e w' ⟨rfl, hw⟩
      have hsz : (Sort.insertionSort (ltOf fun a b : Fin (m + 1) => cf a.1 b.1) (dF (m + 1)) 0 (m + 1)).size = m + 1 := by
        have := congrArg List.length (sorted_fin m (ltOf fun a b : Fin (m + 1) => cf a.1 b.1) (fun a b => decide (cf a.toNat b.toNat < 0)) (fun a b => by simp [ltOf]))
        rw [List.length_map, byLt_len] at this
        exact this
      obtain ⟨h1, h2⟩ := sw_own _ hsz hgb hbase r1 r2 r3 hw
      rw [sorted_fin m (ltOf fun a b : Fin (m + 1) => cf a.1 b.1) (fun a b => decide (cf a.toNat b.toNat < 0)) (fun a b => by simp [ltOf])] at h1
      exact ⟨rfl, h1, by simpa [Value.ownBlock] using h2⟩
end Go.Proofs.Ythkccaclmodjiaa.I
