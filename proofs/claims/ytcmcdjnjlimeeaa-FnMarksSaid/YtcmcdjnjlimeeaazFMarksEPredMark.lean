import Derived.Test.YtcmcdjnjlimeeaazFMarksM0
namespace Go.Proofs.Ytcmcdjnjlimeeaa.M
open Go.RowKit Go.Proofs.YtcmcdjnjlimeeaaW.PrintWords Go.Proofs.YtcmcdjnjlimeeaaW.PrintLast Go.Proofs.YtcmcdjnjlimeeaaW.PrintMore
attribute [local go_sem] max2_int min2_int max_two min_two max_three min_three max_four min_four
set_option linter.unusedVariables false
set_option linter.unusedSimpArgs false
def PredOn (ik : IntKind) (g : Nat) (lb : Array Value) (p : Int → Bool) (zs : List Int) (w : World) : Prop :=
  ∀ (W : World) (x : Int), x ∈ zs → Below w.heap.size w W → Calls Try.prog g (#[.int ik x] ++ lb) W fun e w' => e = .returned (.bool (p x)) ∧ Below w.heap.size w w'
theorem box_cell (w : World) (v : Value) (t : TypeId) (nd : Nat) : ((w.alloc (.cells #[v] t)).drewN nd).cell? ⟨w.heap.size, 0, none⟩ = some v := by
  simp [go_sem]
theorem box_lt (w : World) (o : Obj) (nd : Nat) : w.heap.size < ((w.alloc o).drewN nd).heap.size := by
  simp [go_sem]
theorem box_below (w : World) (o : Obj) (nd : Nat) : Below w.heap.size w ((w.alloc o).drewN nd) := pw_below_drewN ((Below.refl _ _).alloc (Nat.le_refl _) _) _
def idxP (p : Int → Bool) (zs : List Int) : Int := match zs.findIdx? p with
  | some i => (i : Int)
  | none => -1
theorem rd_getD (zs : List Int) (j : Nat) : rd zs (j : Int) = zs.getD j 0 := rfl
theorem rd_mem (zs : List Int) (j : Nat) (h : j < zs.length) : rd zs (j : Int) ∈ zs := by
  rw [rd_getD, List.getD_eq_getElem?_getD, List.getElem?_eq_getElem h]
  exact List.getElem_mem h
theorem idxP_hit (p : Int → Bool) (zs : List Int) (j : Nat) (h : j < zs.length) (hj : p (rd zs j) = true) (ho : ∀ i, i < j → p (rd zs (i : Nat)) = false) : idxP p zs = j := by
  have e : zs.findIdx? p = some j := by
    rw [List.findIdx?_eq_some_iff_getElem]
    refine ⟨h, ?_, fun i hi => ?_⟩
    · rw [rd_getD, List.getD_eq_getElem?_getD, List.getElem?_eq_getElem h] at hj
      exact hj
    · have := ho i hi
      rw [rd_getD, List.getD_eq_getElem?_getD, List.getElem?_eq_getElem (Nat.lt_trans hi h)] at this
      simpa using this
  unfold idxP
  rw [e]
theorem idxP_miss (p : Int → Bool) (zs : List Int) (ho : ∀ i, i < zs.length → p (rd zs (i : Nat)) = false) : idxP p zs = -1 := by
  have e : zs.findIdx? p = none := by
    rw [List.findIdx?_eq_none_iff]
    intro x hx
    obtain ⟨i, hi, rfl⟩ := List.getElem_of_mem hx
    have := ho i hi
    rw [rd_getD, List.getD_eq_getElem?_getD, List.getElem?_eq_getElem hi] at this
    exact this
  unfold idxP
  rw [e]
theorem idxP_any (p : Int → Bool) (zs : List Int) : decide (0 ≤ idxP p zs) = zs.any p := by
  unfold idxP
  cases h : zs.findIdx? p with
  | some i =>
    rw [List.findIdx?_eq_some_iff_getElem] at h
    obtain ⟨hi, hp, _⟩ := h
    have : zs.any p = true := List.any_eq_true.mpr ⟨_, List.getElem_mem hi, hp⟩
    rw [this]
    simp
  | none =>
    rw [List.findIdx?_eq_none_iff] at h
    have : zs.any p = false := by
      rw [List.any_eq_false]
      intro x hx
      simpa using h x hx
    rw [this]
    rfl
section
set_option maxHeartbeats 8000000 in
set_option maxRecDepth 100000 in
theorem indexFunc_mark (g : Nat) (lb : Array Value) (eg : ∀ args w, (callFunc g args).run Try.prog w = .ok (.enter g args) w) (p : Int → Bool) (A0 : Option Addr) (c0 : Nat) (l0 : List Int) (w : World)
    (hr0 : Kd.C (Kd.int .u16) w A0 l0.length l0) (hp : PredOn .u16 g lb p l0 w) :
    Calls Try.prog 52 #[.slice A0 l0.length c0, .func (.func g) #[] lb] w fun e w' => e = .returned (.int .i64 (idxP p l0)) ∧ Below w.heap.size w w' := by
  have HM := Kd.C_max hr0
  have HR0 := Aside0.mk hr0
  have HP := Aside0.mk hp
  clear hr0 hp
  go_enter Try.func52, Try.ntmps52
  go_wp2
  go_loopg [5, 8] l0.length (fun gg _ s8 wr => ∃ kk : Nat, kk ≤ l0.length ∧ l0.length - kk ≤ gg ∧ s8 = .int .i64 kk ∧ Aside0 (Below w.heap.size w wr) ∧ Aside0 (∀ j, j < kk → p (rd l0 (j : Nat)) = false))
  case atStart => exact ⟨0, Nat.zero_le _, by omega, rfl, ⟨Below.refl _ w⟩, ⟨fun j hj => absurd hj (Nat.not_lt_zero _)⟩⟩
  case round =>
    obtain ⟨kk, hkk, hg, rfl, BW, A⟩ := hrel
    by_cases hlt : kk < l0.length
    · have hltz : (kk : Int) < (l0.length : Int) := by omega
      obtain ⟨ad, e, hx⟩ := Kd.at_int (Kd.C_below HR0.out BW.out) (kk : Int) (by omega) hltz
      cases e
      have hcall := HP.out wr (rd l0 (kk : Nat)) (rd_mem l0 kk hlt) BW.out
      simp only [Int.toNat_natCast] at hx
      generalize hy : rd l0 ((kk : Nat) : Int) = y at hx hcall
      have B := Aside0.mk hy
      clear hy
      cases hq : p y with
      | true =>
        rw [hq] at hcall
        go_wp2_with ((with_reducible refine hcall.mono ?_); rintro e w' ⟨rfl, hb'⟩)
        go_ret
        refine ⟨?_, hb'⟩
        rw [idxP_hit p l0 kk hlt (by rw [B.out]; exact hq) A.out]
        rfl
      | false =>
        rw [hq] at hcall
        go_wp2_with ((with_reducible refine hcall.mono ?_); rintro e w' ⟨rfl, hb'⟩)
        go_roundg (l0.length - (kk + 1))
        case measure => omega
        case rel =>
          refine ⟨kk + 1, by omega, by omega, by go_num, ⟨hb'⟩, ⟨fun j hj => ?_⟩⟩
          by_cases e : j = kk
          · subst e
            rw [B.out]; exact hq
          · exact A.out j (by omega)
    · have hltz : ¬ (kk : Int) < (l0.length : Int) := by omega
      have : kk = l0.length := by omega
      subst this
      go_wp2
      go_ret
      refine ⟨?_, BW.out⟩
      rw [idxP_miss p l0 A.out]
      rfl
set_option maxHeartbeats 8000000 in
set_option maxRecDepth 100000 in
theorem containsFunc_mark (g : Nat) (lb : Array Value) (eg : ∀ args w, (callFunc g args).run Try.prog w = .ok (.enter g args) w) (p : Int → Bool) (A0 : Option Addr) (c0 : Nat) (l0 : List Int) (w : World)
    (hr0 : Kd.C (Kd.int .u16) w A0 l0.length l0) (hp : PredOn .u16 g lb p l0 w) :
    Calls Try.prog 38 #[.slice A0 l0.length c0, .func (.func g) #[] lb] w fun e w' => e = .returned (.bool (l0.any p)) ∧ Below w.heap.size w w' := by
  rw [← idxP_any p l0]
  have HR0 := Aside0.mk hr0
  have HP := Aside0.mk hp
  clear hr0 hp
  go_enter Try.func38, Try.ntmps38
  go_wp2_with (go_at_call 52; refine (indexFunc_mark g lb eg p A0 c0 l0 _ HR0.out HP.out).mono ?_; rintro e w' ⟨rfl, hb'⟩)
  go_ret
  exact ⟨rfl, hb'⟩
end
end Go.Proofs.Ytcmcdjnjlimeeaa.M
