import Derived.Test.YthkccaclmodjiaazFLateEShort
import Derived.Test.YthkccaclmodjiaazFLateI0
import Derived.Test.YthkccaclmodjiaazFLateI2
import Derived.Test.YthkccaclmodjiaazFLateEPieceCode
import Derived.Test.YthkccaclmodjiaaProg
import Derived.Shelf.SortM.Plain
import Derived.Shelf.SortM.SortNone
section
namespace Go.Proofs.Ythkccaclmodjiaa.I
open Go.RowKit Go.Proofs.YthkccaclmodjiaaW.PrintWords Go.Proofs.YthkccaclmodjiaaW.PrintLast Go.Proofs.YthkccaclmodjiaaW.PrintMore
attribute [local go_sem] max2_int min2_int max_two min_two max_three min_three max_four min_four   -- for this text's walks alone
set_option linter.unusedVariables false
set_option linter.unusedSimpArgs false
def impl_ironCode.f (k : Nat) (a0_0 : Int) (a0_1 : Int) (l1 : List (S57)) : Option (Int) := (impl_ValidIron.f a0_0 a0_1).bind fun t181 => ((impl_unless.f t181 1).bind fun t182 => ((impl_pieceCode.f k l1).bind fun t183 => ((impl_firstOf.f k (([t182, t183] : List Int))).bind fun t187 => (some t187))))
theorem impl_ironCode.mono : ∀ a0 a1 a2 k, LeO (impl_ironCode.f k a0 a1 a2) (impl_ironCode.f (k + 1) a0 a1 a2) := by
 intro a0 a1 a2 k
 unfold impl_ironCode.f
 repeat' first
  | (with_reducible exact impl_firstOf.mono _ _)
  | (with_reducible exact impl_pieceCode.mono _ _)
  | (with_reducible exact LeO.refl _)
  | (with_reducible exact LeO.none _)
  | (with_reducible refine LeO.ite ?_ ?_)
  | (with_reducible refine LeO.bind ?_ (fun _ => ?_))
  | exact impl_firstOf.mono _ _
  | exact impl_pieceCode.mono _ _
  | exact LeO.none _
  | refine LeO.ite ?_ ?_
  | refine LeO.bind ?_ (fun _ => ?_)
set_option maxHeartbeats 8000000 in
set_option maxRecDepth 100000 in
theorem impl_ironCode.calls (k : Nat) (a0_0 : Int) (a0_1 : Int) (A1 : Option Addr) (c1 : Nat) (l1 : List (S57)) (r : Int) (w : World) (hr1 : Kd.C k57 w A1 l1.length l1) (hc1 : l1.length ≤ c1) (h : impl_ironCode.f k a0_0 a0_1 l1 = some r) :
 Calls Try.prog 74 #[.agg #[.int .i8 a0_0, .int .i8 a0_1], .slice A1 l1.length c1] w fun e w' => e = .returned (.int .i64 r) ∧ Below w.heap.size w w' := by
 have hu27 := Try.underlying27
 have HR1 := Aside0.mk hr1
 have HC1 := Aside0.mk hc1
 clear hr1 hc1
 have HB := Aside0.mk (Below.refl w.heap.size w)
 have H : ((impl_ValidIron.f a0_0 a0_1).bind fun t181 => ((impl_unless.f t181 1).bind fun t182 => ((impl_pieceCode.f k l1).bind fun t183 => ((impl_firstOf.f k (([t182, t183] : List Int))).bind fun t187 => (some t187))))) = some r := h
 clear h
 replace H := Option.bind_eq_some_iff.mp H
 obtain ⟨t181, A30, H⟩ := H
 replace H : ((impl_unless.f t181 1).bind fun t182 => ((impl_pieceCode.f k l1).bind fun t183 => ((impl_firstOf.f k (([t182, t183] : List Int))).bind fun t187 => (some t187)))) = some r := H
 have A3 := Aside0.mk A30
 clear A30
 replace H := Option.bind_eq_some_iff.mp H
 obtain ⟨t182, A40, H⟩ := H
 replace H : ((impl_pieceCode.f k l1).bind fun t183 => ((impl_firstOf.f k (([t182, t183] : List Int))).bind fun t187 => (some t187))) = some r := H
 have A4 := Aside0.mk A40
 clear A40
 replace H := Option.bind_eq_some_iff.mp H
 obtain ⟨t183, A50, H⟩ := H
 replace H : ((impl_firstOf.f k (([t182, t183] : List Int))).bind fun t187 => (some t187)) = some r := H
 have A5 := Aside0.mk A50
 clear A50
 obtain ⟨y184, hy184⟩ : ∃ y_ : List Int, y_ = (([t182, t183] : List Int)) := ⟨_, rfl⟩
 replace H : ((impl_firstOf.f k y184).bind fun t187 => (some t187)) = some r := by first | (rw [hy184]; with_reducible exact H) | (have H2_ := (Option.bind_some _ _).symm.trans H; rw [hy184]; with_reducible exact H2_) | (have H2_ := (Option.bind_some _ _).symm.trans H; with_reducible exact H2_) | with_reducible exact H | (rw [hy184]; exact H) | exact H
 have Ny184 := Aside0.mk hy184
 clear hy184
 replace H := Option.bind_eq_some_iff.mp H
 obtain ⟨t187, A60, H⟩ := H
 replace H : (some t187) = some r := H
 have A6 := Aside0.mk A60
 clear A60
 obtain rfl := Option.some.inj H
 go_enter Try.func74, Try.ntmps74
 go_wp2_with (first | ((with_reducible refine gate_dst (N := 2) rfl ?_); refine box_event ?hg (N := 2) ?hd (cs := #[.int .i8 a0_0, .int .i8 a0_1]) (t := 27) ?hr ?_; (case hd => rfl); (case hg => rfl); (case hr => first | (go_simp; done) | (go_simp; rfl)); intro gb180 hg w7 hbox hb; have n0_ := Aside0.mk (below_step (blB HB) hb); have n1_ := Aside0.mk (hbox); have n2_ := Aside0.mk ((by rw [hg]; exact (below_size (blB HB)) : w.heap.size ≤ gb180)); have n3_ := Aside0.mk ((by rw [hg]; exact (below_size (blB HB)) : w.heap.size ≤ gb180)); clear HB; have HB := n0_; have BK180 := n1_; have GW180 := n2_; have GE180 := n3_; clear n0_ n1_ n2_ n3_; clear hb hbox hg; have hcz8_0 : w7.cell? ⟨gb180, 0, none⟩ = some (.int .i8 a0_0) := (blk_cell BK180.out 0).trans rfl; have hcz8_1 : w7.cell? ⟨gb180, 1, none⟩ = some (.int .i8 a0_1) := (blk_cell BK180.out 1).trans rfl; have hfz8_0 := blk_frozen BK180.out 0; have hfz8_1 := blk_frozen BK180.out 1) | ((with_reducible refine gate_callee (f := 68) rfl ?_); refine goesL_ (some 6) rfl rfl Try.func68 (by kernel_rfl) rfl #[.agg #[.int .i8 a0_0, .int .i8 a0_1]] rfl (by (try simp only [List.map_toArray, List.map_cons, List.map_nil]); first | done | rfl | (simp only [List.length_drop, List.length_take]; rfl)) ?_; (with_reducible refine (impl_ValidIron.calls a0_0 a0_1 t181 _ A3.out).mono ?_); rintro e w9 ⟨rfl, hb⟩; refine ⟨_, rfl, ?_⟩; have n0_ := Aside0.mk (blk_below (g := gb180) (o := .cells #[.int .i8 a0_0, .int .i8 a0_1] 27 (0, 0)) (by (with_reducible repeat (first | refine blk_drewN ?_ _ | refine blk_drew ?_ | refine blk_alloc ?_ _)); exact BK180.out) hb); have n1_ := Aside0.mk (below_step (by repeat (first | (with_reducible first | exact HB.out | apply below_alloc | apply pw_below_drewN | apply below_drew1 | refine below_set ?_ GE180.out) | exact HB.out)) hb); clear BK180; clear HB; have BK180 := n0_; have HB := n1_; clear n0_ n1_; (try clear hb); (try clear hb2); (try clear hk); (try clear hi)) | ((with_reducible refine gate_callee (f := 105) rfl ?_); refine goesL_ (some 7) rfl rfl Try.func105 (by kernel_rfl) rfl #[.bool t181, .int .i64 1] rfl (by (try simp only [List.map_toArray, List.map_cons, List.map_nil]); first | done | rfl | (simp only [List.length_drop, List.length_take]; rfl)) ?_; (with_reducible refine (impl_unless.calls t181 1 t182 _ A4.out).mono ?_); rintro e w' ⟨rfl, ⟨nd, rfl⟩⟩; refine ⟨_, rfl, ?_⟩) | ((with_reducible refine gate_callee (f := 106) rfl ?_); refine goesL_ (some 9) rfl rfl Try.func106 (by kernel_rfl) rfl #[.slice A1 l1.length c1] rfl (by (try simp only [List.map_toArray, List.map_cons, List.map_nil]); first | done | rfl | (simp only [List.length_drop, List.length_take]; rfl)) ?_; (with_reducible refine (impl_pieceCode.calls k _ _ l1 t183 _ ?side1 ?side2 A5.out).mono ?_); (case side1 => repeat (first | exact (Kd.C_below HR1.out (by repeat (first | (with_reducible first | exact HB.out | apply below_alloc | apply pw_below_drewN | apply below_drew1 | refine below_set ?_ GE180.out) | exact HB.out))) | (with_reducible refine Kd.C_alloc ?_ _) | (with_reducible refine Kd.C_drewN ?_ _) | (with_reducible refine Kd.C_drew ?_))); (case side2 => exact HC1.out); rintro e w10 ⟨rfl, hb⟩; refine ⟨_, rfl, ?_⟩; have n0_ := Aside0.mk (blk_below (g := gb180) (o := .cells #[.int .i8 a0_0, .int .i8 a0_1] 27 (0, 0)) (by (with_reducible repeat (first | refine blk_drewN ?_ _ | refine blk_drew ?_ | refine blk_alloc ?_ _)); exact BK180.out) hb); have n1_ := Aside0.mk (below_step (by repeat (first | (with_reducible first | exact HB.out | apply below_alloc | apply pw_below_drewN | apply below_drew1 | refine below_set ?_ GE180.out) | exact HB.out)) hb); clear BK180; clear HB; have BK180 := n0_; have HB := n1_; clear n0_ n1_; (try clear hb); (try clear hb2); (try clear hk); (try clear hi)) | ((with_reducible refine gate_dst (N := 10) rfl ?_); refine Kd.R_lit (Kd.int .i64) _ 2 ?hg (N := 10) ?hd (xs := ([t182, t183] : List Int)) (inner := [.int .i64 t182, .int .i64 t183]) (ok := fun _ => True) (okp := fun _ => True) ?hr ?hp (fun _ hk => hk) trivial (Below.refl _ _) (Nat.le_refl _) (by simp) ?_; (case hd => rfl); (case hg => rfl); (case hr => first | (go_simp; done) | (go_simp; rfl)); (case hp => exact (Reps.one (show Kd.M (Kd.int .i64) _ _ _ t182 [.int .i64 t182] from rfl) (Reps.one (show Kd.M (Kd.int .i64) _ _ _ t183 [.int .i64 t183] from rfl) (Reps.none _ _)))); intro v185 w11 ho12 hb hg_ hnew_; clear hg_ hnew_; (first | rw [← Ny184.out] at ho12 | (simp only [Int.reduceToNat] at ho12; rw [← Ny184.out] at ho12)); have n0_ := Aside0.mk (Kd.R_lower ho12 (below_size (by repeat (first | (with_reducible first | exact HB.out | apply below_alloc | apply pw_below_drewN | apply below_drew1 | refine below_set ?_ GE180.out) | exact HB.out)))); have n1_ := Aside0.mk (blk_below (g := gb180) (o := .cells #[.int .i8 a0_0, .int .i8 a0_1] 27 (0, 0)) (by (with_reducible repeat (first | refine blk_drewN ?_ _ | refine blk_drew ?_ | refine blk_alloc ?_ _)); exact BK180.out) hb); have n2_ := Aside0.mk (below_step (by repeat (first | (with_reducible first | exact HB.out | apply below_alloc | apply pw_below_drewN | apply below_drew1 | refine below_set ?_ GE180.out) | exact HB.out)) hb); clear BK180; clear HB; have HO186 := n0_; have BK180 := n1_; have HB := n2_; clear n0_ n1_ n2_; clear hb ho12; obtain ⟨Ao13, co13, eo13⟩ := Kd.R_slice HO186.out; subst eo13) | ((with_reducible refine gate_callee (f := 104) rfl ?_); refine goesL_ (some 11) rfl rfl Try.func104 (by kernel_rfl) rfl #[.slice Ao13 y184.length co13] rfl (by (try simp only [List.map_toArray, List.map_cons, List.map_nil]); first | done | rfl | (simp only [List.length_drop, List.length_take]; rfl)) ?_; (with_reducible refine (impl_firstOf.calls k _ _ y184 t187 _ ?side1 ?side2 A6.out).mono ?_); (case side1 => exact cvC ((Kd.R_reads' HO186.out).2.2)); (case side2 => exact (Kd.R_reads' HO186.out).2.1); rintro e w' ⟨rfl, ⟨nd, rfl⟩⟩; refine ⟨_, rfl, ?_⟩))
 go_ret
 exact ⟨by first | rfl | (simp [errW_none, errW_some] <;> rfl) | (simp [*, errW_none, errW_some] <;> rfl), by repeat (first | (with_reducible first | exact HB.out | apply below_alloc | apply pw_below_drewN | apply below_drew1 | refine below_set ?_ GE180.out) | exact HB.out)⟩
end Go.Proofs.Ythkccaclmodjiaa.I
end
section
namespace Go.Proofs.Ythkccaclmodjiaa.I
open Go.RowKit Go.Proofs.YthkccaclmodjiaaW.PrintWords Go.Proofs.YthkccaclmodjiaaW.PrintLast Go.Proofs.YthkccaclmodjiaaW.PrintMore
attribute [local go_sem] max2_int min2_int max_two min_two max_three min_three max_four min_four
set_option linter.unusedVariables false
set_option linter.unusedSimpArgs false
theorem nodup_len : ∀ (l m : List Int), l.Nodup → (∀ x ∈ l, x ∈ m) → l.length ≤ m.length
 | [], _, _, _ => Nat.zero_le _
 | a :: r, m, h, s => by
  have ha := s a (by simp)
  obtain ⟨h0, h2⟩ := List.nodup_cons.mp h
  have h1 := nodup_len r (m.erase a) h2 (fun x hx => (List.mem_erase_of_ne (show x ≠ a from fun e => h0 (e ▸ hx))).mpr (s x (by simp [hx])))
  rw [List.length_erase_of_mem ha] at h1
  have := List.length_pos_of_mem ha
  simp only [List.length_cons]
  omega
def iota (n : Nat) : List Int := (List.range n).map Int.ofNat
theorem iota_len (n : Nat) : (iota n).length = n := by simp [iota]
theorem iota_mem (n : Nat) (x : Int) : x ∈ iota n ↔ 0 ≤ x ∧ x < n := by
 simp only [iota, List.mem_map, List.mem_range]
 constructor
 · rintro ⟨a, h, rfl⟩
   exact ⟨Int.natCast_nonneg a, by simpa using h⟩
 · rintro ⟨h1, h2⟩
   exact ⟨x.toNat, by omega, by show ((x.toNat : Nat) : Int) = x; omega⟩
theorem iota_get (n i : Nat) (h : i < (iota n).length) : (iota n)[i] = (i : Int) := by simp [iota]
theorem iota_inc (n : Nat) : (iota n).Pairwise (fun a b => a < b) := by
 rw [iota, List.pairwise_map]
 refine List.pairwise_lt_range.imp ?_
 intro a b h
 exact Int.ofNat_lt.mpr h
theorem iota_nodup (n : Nat) : (iota n).Nodup := (iota_inc n).imp (fun h => by omega)
def srt (l : List Int) : List Int := l.mergeSort fun x y => decide (x ≤ y)
theorem srt_perm (l : List Int) : (srt l).Perm l := List.mergeSort_perm _ _
theorem srt_len (l : List Int) : (srt l).length = l.length := (srt_perm l).length_eq
theorem srt_up (l : List Int) : (srt l).Pairwise (fun a b => a ≤ b) := by
 refine (List.pairwise_mergeSort (le := fun x y : Int => decide (x ≤ y)) ?_ ?_ l).imp (fun h => of_decide_eq_true h)
 · intro a b c h1 h2
   have := of_decide_eq_true h1
   have := of_decide_eq_true h2
   exact decide_eq_true (by omega)
 · intro a b
   by_cases h : a ≤ b
   · simp [h]
   · simp [show b ≤ a by omega]
theorem srt_of_perm (l m : List Int) (h : l.Perm m) (hm : m.Pairwise (fun a b => a ≤ b)) : srt l = m := by
 refine List.Perm.eq_of_pairwise (le := fun a b : Int => a ≤ b) (fun a b _ _ h1 h2 => by omega) (srt_up l) hm ((srt_perm l).trans h)
theorem perm_iota (l : List Int) (h : l.Nodup) (hr : ∀ x ∈ l, 0 ≤ x ∧ x < l.length) : l.Perm (iota l.length) := by
 refine (List.perm_ext_iff_of_nodup h (iota_nodup _)).mpr fun a => ?_
 constructor
 · intro ha
   exact (iota_mem _ _).mpr (hr a ha)
 · intro ha
   refine Classical.byContradiction fun hn => ?_
   have h1 := nodup_len l ((iota l.length).erase a) h (fun x hx => (List.mem_erase_of_ne (show x ≠ a from fun e => hn (e ▸ hx))).mpr ((iota_mem _ _).mpr (hr x hx)))
   rw [List.length_erase_of_mem ha, iota_len] at h1
   have := (iota_mem _ _).mp ha
   omega
def isOrd (l : List Int) (n : Nat) : Bool := decide (l.length = n) && decide (srt l = iota l.length)
theorem isOrd_iff (l : List Int) (n : Nat) : isOrd l n = true ↔ l.length = n ∧ l.Nodup ∧ ∀ x ∈ l, 0 ≤ x ∧ x < n := by
 unfold isOrd
 rw [Bool.and_eq_true, decide_eq_true_iff, decide_eq_true_iff]
 constructor
 · rintro ⟨rfl, h⟩
   have hp : l.Perm (iota l.length) := (srt_perm l).symm.trans (by rw [h])
   exact ⟨rfl, hp.nodup_iff.mpr (iota_nodup _), fun x hx => (iota_mem _ _).mp (hp.mem_iff.mp hx)⟩
 · rintro ⟨rfl, h1, h2⟩
   exact ⟨rfl, srt_of_perm _ _ (perm_iota l h1 h2) ((iota_inc _).imp (fun h => by omega))⟩
end Go.Proofs.Ythkccaclmodjiaa.I
end
section
namespace Go.Proofs.Ythkccaclmodjiaa.I
open Go.RowKit Go.Proofs.YthkccaclmodjiaaW.PrintWords Go.Proofs.YthkccaclmodjiaaW.PrintLast Go.Proofs.YthkccaclmodjiaaW.PrintMore
attribute [local go_sem] max2_int min2_int max_two min_two max_three min_three max_four min_four
set_option linter.unusedVariables false
set_option linter.unusedSimpArgs false
theorem Ev.loop {S R : Type} {L : Nat → S → Option R} {r : R} (Inv : S → Nat → Prop)
 (h : ∀ s d, Inv s d → (∃ K, ∀ k, K ≤ k → L (k + 1) s = some r) ∨ ∃ s' d', d' < d ∧ Inv s' d' ∧ ∃ K, ∀ k, K ≤ k → L (k + 1) s = L k s') :
 ∀ d s, Inv s d → Ev (fun k => L k s) r := by
 intro d
 induction d using Nat.strongRecOn with
 | ind d ih =>
  intro s hs
  rcases h s d hs with ⟨K, hK⟩ | ⟨s', d', hd, hs', K, hK⟩
  · refine ⟨K + 1, fun k hk => ?_⟩
    obtain ⟨j, rfl⟩ : ∃ j, k = j + 1 := ⟨k - 1, by omega⟩
    exact hK j (by omega)
  · obtain ⟨K', hK'⟩ := ih d' hd s' hs'
    refine ⟨max K K' + 1, fun k hk => ?_⟩
    obtain ⟨j, rfl⟩ : ∃ j, k = j + 1 := ⟨k - 1, by omega⟩
    have h1 := hK j (by omega)
    have h2 := hK' j (by omega)
    exact h1.trans h2
theorem Ev.const {α : Type} {g : Option α} {r : α} (h : g = some r) : Ev (fun _ => g) r := ⟨0, fun _ _ => h⟩
theorem Ev.fixed {α : Type} {g : Nat → Option α} {r : α} (h : ∀ k, g k = some r) : Ev g r := ⟨0, fun k _ => h k⟩
theorem Ev.get {α : Type} {g : Nat → Option α} {r : α} (h : Ev g r) : ∃ k, g k = some r := Ev.rounds h
theorem Ev.ite_t {α : Type} {c : Prop} [Decidable c] {g f : Nat → Option α} {r : α} (hc : c) (h : Ev g r) : Ev (fun k => if c then g k else f k) r := by
 obtain ⟨K, hK⟩ := h
 exact ⟨K, fun k hk => (if_pos hc).trans (hK k hk)⟩
theorem Ev.ite_f {α : Type} {c : Prop} [Decidable c] {g f : Nat → Option α} {r : α} (hc : ¬ c) (h : Ev f r) : Ev (fun k => if c then g k else f k) r := by
 obtain ⟨K, hK⟩ := h
 exact ⟨K, fun k hk => (if_neg hc).trans (hK k hk)⟩
theorem Ev.all {α : Type} {g : Nat → Option α} {r : α} (h : Ev g r) : ∃ K, ∀ k, K ≤ k → g k = some r := h
theorem w64 (x : Int) (h : -9223372036854775808 ≤ x) (h' : x ≤ 9223372036854775807) : wrap64 x = x := IntWalk.wrap64_in x ⟨h, h'⟩
theorem rd_of_lt (l : List Int) (i : Nat) (h : i < l.length) : rd l (i : Int) = l[i] := by
 show l.getD i 0 = l[i]
 rw [List.getD_eq_getElem?_getD, List.getElem?_eq_getElem h]
 rfl
end Go.Proofs.Ythkccaclmodjiaa.I
end
section
namespace Go.Proofs
open Go.Shelf
def Try.sortA_ren : Go.Shelf.Ren := ⟨fun | 5 => 118 | 8 => 129 | 7 => 128 | 19 => 144 | 20 => 145 | 10 => 135 | 11 => 136 | 12 => 137 | 13 => 138 | 14 => 139 | 15 => 140 | 16 => 141 | 17 => 142 | 18 => 143 | 30 => 148 | 31 => 149 | 32 => 150 | 33 => 151 | 34 => 152 | 35 => 153 | 40 => 155 | n => n, fun | 23 => 37 | 25 => 2 | 3 => 3 | 32 => 117 | 22 => 37 | 0 => 0 | 44 => 132 | 46 => 101 | 4 => 4 | 36 => 124 | 35 => 123 | 41 => 129 | 5 => 5 | 9 => 9 | 53 => 135 | 57 => 139 | 63 => 141 | 64 => 142 | n => n, fun | n => n⟩
theorem Try.sortA : Go.Proofs.SlLaysM.n5 Try.prog Try.sortA_ren := {
 mixed := by kernel_rfl
 f5 := ⟨Try.f118.name, by decide, Try.func118.trans (congrArg some (by kernel_rfl))⟩
 f7 := ⟨Try.f128.name, by decide, Try.func128.trans (congrArg some (by kernel_rfl))⟩
 f8 := Try.func129.trans (congrArg some (by kernel_rfl))
 f10 := ⟨Try.f135.name, by decide, Try.func135.trans (congrArg some (by kernel_rfl))⟩
 f11 := ⟨Try.f136.name, by decide, Try.func136.trans (congrArg some (by kernel_rfl))⟩
 f12 := ⟨Try.f137.name, by decide, Try.func137.trans (congrArg some (by kernel_rfl))⟩
 f13 := ⟨Try.f138.name, by decide, Try.func138.trans (congrArg some (by kernel_rfl))⟩
 f14 := ⟨Try.f139.name, by decide, Try.func139.trans (congrArg some (by kernel_rfl))⟩
 f15 := ⟨Try.f140.name, by decide, Try.func140.trans (congrArg some (by kernel_rfl))⟩
 f16 := ⟨Try.f141.name, by decide, Try.func141.trans (congrArg some (by kernel_rfl))⟩
 f17 := ⟨Try.f142.name, by decide, Try.func142.trans (congrArg some (by kernel_rfl))⟩
 f18 := ⟨Try.f143.name, by decide, Try.func143.trans (congrArg some (by kernel_rfl))⟩
 f19 := Try.func144.trans (congrArg some (by kernel_rfl))
 f20 := Try.func145.trans (congrArg some (by kernel_rfl))
 f30 := ⟨Try.f148.name, by decide, Try.func148.trans (congrArg some (by kernel_rfl))⟩
 f31 := Try.func149.trans (congrArg some (by kernel_rfl))
 f32 := Try.func150.trans (congrArg some (by kernel_rfl))
 f33 := ⟨Try.f151.name, by decide, Try.func151.trans (congrArg some (by kernel_rfl))⟩
 f34 := ⟨Try.f152.name, by decide, Try.func152.trans (congrArg some (by kernel_rfl))⟩
 f35 := ⟨Try.f153.name, by decide, Try.func153.trans (congrArg some (by kernel_rfl))⟩
 f40 := ⟨Try.f155.name, by decide, Try.func155.trans (congrArg some (by kernel_rfl))⟩
 t0 := Try.underlying0
 a0 := Try.isAgg0
 z0 := Try.sizeOf0
 v0 := Try.zeroValue0
 t3 := Try.underlying3
 a3 := Try.isAgg3
 z3 := Try.sizeOf3
 v3 := Try.zeroValue3
 t4 := Try.underlying4
 a4 := Try.isAgg4
 z4 := Try.sizeOf4
 v4 := Try.zeroValue4
 t5 := Try.underlying5
 a5 := Try.isAgg5
 z5 := Try.sizeOf5
 v5 := Try.zeroValue5
 t9 := Try.underlying9
 a9 := Try.isAgg9
 z9 := Try.sizeOf9
 v9 := Try.zeroValue9
 t22 := Try.underlying37
 a22 := Try.isAgg37
 z22 := Try.sizeOf37
 v22 := Try.zeroValue37
 t23 := Try.underlying37
 a23 := Try.isAgg37
 z23 := Try.sizeOf37
 v23 := Try.zeroValue37
 t25 := Try.underlying2
 a25 := Try.isAgg2
 z25 := Try.sizeOf2
 v25 := Try.zeroValue2
 t32 := Try.underlying117
 a32 := Try.isAgg117
 z32 := Try.sizeOf117
 v32 := Try.zeroValue117
 t35 := Try.underlying123
 a35 := Try.isAgg123
 z35 := Try.sizeOf123
 v35 := Try.zeroValue123
 t36 := Try.underlying124
 a36 := Try.isAgg124
 z36 := Try.sizeOf124
 v36 := Try.zeroValue124
 t41 := Try.underlying129
 a41 := Try.isAgg129
 z41 := Try.sizeOf129
 v41 := Try.zeroValue129
 t44 := Try.underlying132
 a44 := Try.isAgg132
 z44 := Try.sizeOf132
 v44 := Try.zeroValue132
 t46 := Try.underlying101
 a46 := Try.isAgg101
 z46 := Try.sizeOf101
 v46 := Try.zeroValue101
 t53 := Try.underlying135
 a53 := Try.isAgg135
 z53 := Try.sizeOf135
 v53 := Try.zeroValue135
 t57 := Try.underlying139
 a57 := Try.isAgg139
 z57 := Try.sizeOf139
 v57 := Try.zeroValue139
 t63 := Try.underlying141
 a63 := Try.isAgg141
 z63 := Try.sizeOf141
 v63 := Try.zeroValue141
 t64 := Try.underlying142
 a64 := Try.isAgg142
 z64 := Try.sizeOf142
 v64 := Try.zeroValue142 }
end Go.Proofs
end
