import Derived.Test.YtggjdcijplgpdaazFStocksEInH
import Derived.Test.YtggjdcijplgpdaazFStocksELayG
import Derived.Test.YtggjdcijplgpdaazFStocksECloneSt
import Derived.Shelf.Spec.SlicesGrow
namespace Go.Proofs.Ytggjdcijplgpdaa.H
open Go.RowKit Go.Proofs.YtggjdcijplgpdaaW.PrintWords Go.Proofs.YtggjdcijplgpdaaW.PrintLast Go.Proofs.YtggjdcijplgpdaaW.PrintMore
attribute [local go_sem] max2_int min2_int max_two min_two max_three min_three max_four min_four
set_option linter.unusedVariables false
set_option linter.unusedSimpArgs false
def upTo (l : List (List Int)) (k : Nat) : List Int := (l.take k).flatten
def rowAt (l : List (List Int)) (k : Nat) : List Int := l.getD k []
theorem upTo_succ (l : List (List Int)) (k : Nat) (h : k < l.length) : upTo l (k + 1) = upTo l k ++ rowAt l k := by
 unfold upTo rowAt
 rw [List.take_add_one, List.flatten_append, List.getD_eq_getElem?_getD, List.getElem?_eq_getElem h]
 simp
theorem upTo_all (l : List (List Int)) : upTo l l.length = l.flatten := by unfold upTo; rw [List.take_length]
theorem upTo_le (l : List (List Int)) (k : Nat) : (upTo l k).length ≤ l.flatten.length := by
 have h := congrArg List.length (congrArg List.flatten (List.take_append_drop k l))
 rw [List.flatten_append, List.length_append] at h
 unfold upTo
 omega
theorem at_rows {e : Nat} {d : Kd Int} {w : World} {A : Option Addr} {n : Nat} {xs : List (List Int)} (h : Kd.C (Kd.slice e d) w A n xs) (k : Nat) (h1 : k < n) : ∃ ad A0 c0, A = some ad ∧ w.cell? (ad.add k) = some (.slice A0 (rowAt xs k).length c0) ∧ (rowAt xs k).length ≤ c0 ∧ Kd.C d w A0 (rowAt xs k).length (rowAt xs k) := by
 obtain ⟨ad, c, e, _, hK, hc0⟩ := Kd.C_get h ([] : List Int) (k : Int) (by omega) (by omega)
 rw [Int.toNat_natCast] at hK hc0
 have hc : ∀ j u, c[j]? = some u → w.cell? (ad.add (k * 1 + j)) = some u := hc0
 obtain ⟨A0, c0, rfl, l0, g0⟩ := hK
 exact ⟨ad, A0, c0, e, by have hq := hc 0 _ rfl; rwa [Nat.mul_one, Nat.add_zero] at hq, l0, g0⟩
theorem row_new (d : Kd Int) (e : Nat) (w : World) (cells : Array Value) (cap : Nat) (h1 : cap ≤ maxLen) (h2 : cells.size = cap * d.sz) : Kd.R d e (w.drew.alloc (.cells cells e)) w.heap.size (fun _ => True) (.slice (some ⟨w.heap.size, 0, none⟩) 0 cap) [] := by
 have h : (w.drew.alloc (.cells cells e)).heap[w.heap.size]? = some (.cells cells e) := by
  show (w.drew.heap.push (.cells cells e))[w.drew.heap.size]? = _
  rw [Array.getElem?_push, if_pos rfl]
 exact ⟨fun _ _ => trivial, [], ⟨by simp, .inr ⟨w.heap.size, cap, cells, rfl, Nat.le_refl _, h, Nat.zero_le _, h1, h2, by simp⟩⟩, Reps.none _ _⟩
theorem growH_calls (n : Nat) (hn : n ≤ 17592186044416) (w : World) : Calls Try.prog 147 #[.slice none 0 0, .int .i64 (n : Int)] w fun e w' => ∃ v, e = .returned v ∧ Kd.R (Kd.int .i16) 23 w' w.heap.size (fun _ => True) v [] ∧ Below w.heap.size w w' := by
 obtain ⟨i0, hi, hzz⟩ := Option.map_eq_some_iff.1 info23
 simp only [Prod.mk.injEq] at hzz
 obtain ⟨hz0, hz1, hz2⟩ := hzz
 rcases Nat.eq_zero_or_pos n with rfl | hp
 · refine (Any8.slices_Grow_room Try.growH none 0 0 0 w (Nat.le_refl _) (by decide) (by decide) (by decide)).mono ?_
   rintro e w' ⟨rfl, rfl⟩
   exact ⟨_, rfl, Kd.R_nil _ _ _ _ _, Below.refl _ _⟩
 · have hG := grownCap_le_maxLen w (0 + n) 0 23 (by unfold maxLen; omega)
   have hG2 := grownCap_ge w (0 + n) 0 23
   refine (Any8.slices_Grow_grow Try.growH i0 (.int .i16 0) hi hz0 (by rw [hz1]; decide) none 0 0 n [] w (Nat.le_refl _) (by omega) (by rw [hz2]; omega) (by omega) (by simp) (fun _ => rfl) (fun a h => by cases h)).mono ?_
   rintro e w' ⟨rfl, rfl⟩
   refine ⟨_, rfl, row_new (Kd.int .i16) 23 w _ _ hG ?_, ?_⟩
   · rw [Array.size_append, Array.size_append, size_zeroCells, size_zeroCells]
     show 0 + (0 + n - 0) * 1 + (grownCap w (0 + n) 0 23 - (0 + n)) * 1 = grownCap w (0 + n) 0 23 * 1
     omega
   · exact below_alloc (below_drew1 (Below.refl _ _)) _
def slices_Concat_int16_int16.f (l0 : List (List Int)) : Option (List Int) := if l0.length ≤ 1000 ∧ l0.flatten.length ≤ 8796093022208 then some l0.flatten else none
set_option maxHeartbeats 8000000 in
set_option maxRecDepth 100000 in
theorem slices_Concat_int16_int16.calls (A0 : Option Addr) (c0 : Nat) (l0 : List (List Int)) (r : List Int) (w : World) (hr0 : Kd.C (Kd.slice 23 (Kd.int .i16)) w A0 l0.length l0) (hc0 : l0.length ≤ c0) (h : slices_Concat_int16_int16.f l0 = some r) :
 Calls Try.prog 132 #[.slice A0 l0.length c0] w fun e w' => ∃ v0_ : Value, e = .returned (v0_) ∧ Kd.R (Kd.int .i16) 23 w' w.heap.size (fun _ => True) v0_ r ∧ Below w.heap.size w w' := by
 unfold slices_Concat_int16_int16.f at h
 by_cases hb : l0.length ≤ 1000 ∧ l0.flatten.length ≤ 8796093022208
 · rw [if_pos hb] at h
   obtain rfl := Option.some.inj h
   have HL := Aside0.mk hb.1
   have HF := Aside0.mk hb.2
   have HR0 := Aside0.mk hr0
   have HB := Aside0.mk (Below.refl w.heap.size w)
   clear hr0 hc0 hb h
   go_enter Try.func132, Try.ntmps132
   go_wp2
   go_loopg [3, 11] l0.length (fun gg v3 v11 w' => ∃ (kk : Nat), kk ≤ l0.length ∧ l0.length - kk ≤ gg ∧ v3 = .int .i64 ((upTo l0 kk).length : Int) ∧ v11 = .int .i64 (kk : Int) ∧ Aside0 (Below w.heap.size w w'))
   case atStart => exact ⟨0, Nat.zero_le _, by omega, rfl, rfl, HB⟩
   case round =>
    obtain ⟨kk, hkk, hg, rfl, rfl, HB⟩ := hrel
    by_cases hlt : kk < l0.length
    · have hltz : (kk : Int) < (l0.length : Int) := by omega
      have hle := upTo_le l0 (kk + 1)
      have hsc := congrArg List.length (upTo_succ l0 kk hlt)
      rw [List.length_append] at hsc
      have hw : wrap64 (((upTo l0 kk).length : Int) + ((rowAt l0 kk).length : Int)) = ((upTo l0 (kk + 1)).length : Int) := by
       have := HF.out
       rw [show wrap64 (((upTo l0 kk).length : Int) + ((rowAt l0 kk).length : Int)) = ((upTo l0 kk).length : Int) + ((rowAt l0 kk).length : Int) by unfold wrap64; omega]
       omega
      have hneg : decide (((upTo l0 (kk + 1)).length : Int) < 0) = false := decide_eq_false (by omega)
      obtain ⟨ad, A1, c1, e, hx, hl, hi⟩ := at_rows HR0.out kk hlt
      cases e
      replace hx := (HB.out.cell (World.block_lt_of_cell? w _ hx)).trans hx
      have HX := Aside0.mk (show kk + 1 ≤ l0.length by omega)
      clear hi hl hle hsc
      have hk1 : wrap64 ((kk : Int) + 1) = ((kk + 1 : Nat) : Int) := by have := HL.out; unfold wrap64; omega
      go_wp2
      go_roundg (l0.length - (kk + 1))
      case measure => omega
      case rel => exact ⟨kk + 1, HX.out, by omega, by rw [hw], by rw [hk1], HB⟩
    · have hltz : ¬ (kk : Int) < (l0.length : Int) := by omega
      obtain rfl : kk = l0.length := by omega
      have hall := upTo_all l0
      have HG := Aside0.mk (fun (W : World) => growH_calls (upTo l0 l0.length).length (by rw [hall]; have := HF.out; omega) W)
      clear hall
      generalize (upTo l0 l0.length).length = T at HG
      go_wp2_with (go_at_call 147; refine (HG.out _).mono ?_; rintro e w1 ⟨v1, rfl, hR, hb1⟩; have HR1 := Aside0.mk (Kd.R_lower hR HB.out.size); have HB1 := Aside0.mk (HB.out.trans (hb1.mono HB.out.size)); clear hR hb1)
      go_loopg [6, 27] l0.length (fun gg v6 v27 w' => ∃ (kk : Nat), kk ≤ l0.length ∧ l0.length - kk ≤ gg ∧ v27 = .int .i64 (kk : Int) ∧ Aside0 (Kd.R (Kd.int .i16) 23 w' w.heap.size (fun _ => True) v6 (upTo l0 kk)) ∧ Aside0 (Below w.heap.size w w'))
      case atStart => exact ⟨0, Nat.zero_le _, by omega, rfl, HR1, HB1⟩
      case round =>
       clear HB HR1 HB1 HG hg
       obtain ⟨kk, hkk, hg, rfl, HO_6, HB⟩ := hrel
       by_cases hlt : kk < l0.length
       · have hltz : (kk : Int) < (l0.length : Int) := by omega
         have hle := upTo_le l0 (kk + 1)
         have hsc := congrArg List.length (upTo_succ l0 kk hlt)
         rw [List.length_append] at hsc
         have LM := Aside0.mk (show (upTo l0 kk).length + (rowAt l0 kk).length ≤ 8796093022208 by have := HF.out; omega)
         obtain ⟨ad, A1, c1, e, hx, hl, hi⟩ := at_rows HR0.out kk hlt
         cases e
         replace hx := (HB.out.cell (World.block_lt_of_cell? w _ hx)).trans hx
         have HI := Aside0.mk hi
         have HX := Aside0.mk (show kk + 1 ≤ l0.length by omega)
         have HU := Aside0.mk (upTo_succ l0 kk hlt)
         clear hi hl hle hsc
         have hk1 : wrap64 ((kk : Int) + 1) = ((kk + 1 : Nat) : Int) := by have := HL.out; unfold wrap64; omega
         go_wp2_with ((with_reducible refine gate_builtin (b := .append) (xs := #[.tmp 31, .tmp 32]) rfl ?_); at_builtin; refine Kd.R_append_rows (Kd.int .i16) (w0 := w) w.heap.size rfl (.tmp 31) (.tmp 32) 158 23 (.int .i16 0) 2 rfl Try.underlying158 info23 rfl (by decide) (by omega) u6 (upTo l0 kk) (rowAt l0 kk) _ _ _ (fun _ => True) (fun _ => False) rfl rfl ?aO ?aR (fun _ _ h => h) (fun _ h => h.elim) ?aF ?aB ?aS ?aL ?_; (case aR => exact (Kd.C_below HI.out HB.out)); (case aB => exact HB.out); (case aF => exact (fun _ _ => trivial)); (case aO => exact HO_6.out); (case aS => exact (below_size HB.out)); (case aL => have := LM.out; omega); intro v134 w12 ho hb hg hat; rw [← HU.out] at ho; have n0_ := Aside0.mk (hb); have n1_ := Aside0.mk (ho); clear HB; clear HO_6; have HB := n0_; have HO135 := n1_; clear n0_ n1_; clear ho hb hg hat)
         go_roundg (l0.length - (kk + 1))
         case measure => omega
         case rel => exact ⟨kk + 1, HX.out, by omega, by rw [hk1], HO135, HB⟩
       · have hltz : ¬ (kk : Int) < (l0.length : Int) := by omega
         obtain rfl : kk = l0.length := by omega
         have HU := Aside0.mk (upTo_all l0)
         go_wp2
         go_ret
         exact ⟨_, rfl, by rw [← HU.out]; exact HO_6.out, HB.out⟩
 · rw [if_neg hb] at h
   cases h
end Go.Proofs.Ytggjdcijplgpdaa.H
