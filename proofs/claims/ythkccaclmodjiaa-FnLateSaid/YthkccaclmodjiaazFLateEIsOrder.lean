import Derived.Test.YthkccaclmodjiaazFLateEShort
import Derived.Test.YthkccaclmodjiaazFLateELayS
import Derived.Test.YthkccaclmodjiaazFLateI0
import Derived.RangeFuncBox
import Derived.RangeFuncLeaves
import Derived.Shelf.Abstract
import Derived.Shelf.AbstractIn
import Derived.Maps.AppendAt
import Derived.WalkKit
import Derived.OwnWalkIn
import Derived.TacticsInMore
import Derived.LoopNIn
import Derived.LoopIn
import Derived.Sort.OwnSorted
import Derived.Lib.SlKeysI
section
namespace Go.Proofs.Ythkccaclmodjiaa.I
open Go.RowKit Go.Proofs.YthkccaclmodjiaaW.PrintWords Go.Proofs.YthkccaclmodjiaaW.PrintLast Go.Proofs.YthkccaclmodjiaaW.PrintMore
attribute [local go_sem] max2_int min2_int max_two min_two max_three min_three max_four min_four
set_option linter.unusedVariables false
set_option linter.unusedSimpArgs false
open Go.Sort Go.Shelf Go.Maps
attribute [local go_sem] Oper.semAt_some
theorem intKd_reps (l : List Int) : Reps (fun (x : Int) (cs : List Value) => cs = [Value.int .i64 x]) 1 l (l.map (Value.int .i64)) := by
 refine ⟨by simp, fun j p hj => ?_⟩
 obtain ⟨h, rfl⟩ := List.getElem?_eq_some_iff.mp hj
 have h' : j < (l.map (Value.int .i64)).length := by simpa using h
 show List.take 1 (List.drop (j * 1) _) = _
 rw [Nat.mul_one, List.drop_eq_getElem_cons h', List.take_succ_cons, List.take_zero, List.getElem_map]
set_option maxRecDepth 100000 in
set_option maxHeartbeats 2000000 in
theorem vals1 (m : Nat) (hm : 1 ≤ m) (l Bs n₀ : Nat) (A0 : Option Addr) (c0 : Nat) (zs : List Int) (w : World) (J Jx : List Int → World → Prop)
 (hlen : zs.length ≤ 1048576) (hC : ∀ W', Below n₀ w W' → Kd.C (Kd.int .i64) W' A0 zs.length zs)
 (hY : ∀ pre x W, J pre W → pre.length < zs.length → YieldAt Fence.wide (m - 1) Try.prog l #[.int .i64 x] W fun e W' =>
  (e = .returned (.bool true) ∧ J (pre ++ [x]) W' ∧ Below n₀ W W') ∨ (e = .returned (.bool false) ∧ Jx (pre ++ [x]) W'))
 (W : World) (hW : Below n₀ w W) (hBs : W.cell? ⟨Bs, 0, none⟩ = some (.slice A0 zs.length c0)) (h0 : J [] W) :
 CallsIn Fence.wide m Try.prog 134 #[.func (.yield l) #[] #[], .pointer (some ⟨Bs, 0, none⟩)] W fun e W' => (∃ v, e = .returned v) ∧
  (J zs W' ∨ ∃ k, k ≤ zs.length ∧ Jx (zs.take k) W') := by
 refine callsIn_of_wp Try.func134 rfl trivial ?_ rfl
 simp only [Try.ntmps134, List.size_toArray, List.length_cons, List.length_nil, Nat.reduceAdd, Nat.reduceSub, Array.replicate_succ, Array.replicate_zero, List.push_toArray, List.append_toArray, List.nil_append, List.cons_append]
 gi_wp2
 gi_loopw [7] (fun i wr => ∃ k : Nat, k ≤ zs.length ∧ i = .int .i64 k ∧ J (zs.take k) wr ∧ Below n₀ W wr)
  (fun i _ => zs.length - (Go.RowKit.intOf i).toNat)
 case atStart => exact ⟨0, Nat.zero_le _, rfl, by rw [List.take_zero]; exact h0, Below.refl _ _⟩
 case round =>
  obtain ⟨k, hk, rfl, hJs, hnx⟩ := hrel
  by_cases hlt : k < zs.length
  · obtain ⟨ad, ea, hx⟩ := Kd.at_int (hC wr (hW.trans hnx)) (k : Int) (by omega) (by omega)
    subst ea
    rw [Int.toNat_natCast] at hx
    have tk : zs.take (k + 1) = zs.take k ++ [rd zs (k : Int)] := by
     rw [List.take_add_one, List.getElem?_eq_getElem hlt]
     have : rd zs (k : Int) = zs[k] := rd_of_lt zs k hlt
     rw [this]
     rfl
    obtain ⟨fn, tmps, assign, body, hy, hR⟩ := hY _ (rd zs (k : Int)) wr hJs (by rw [List.length_take]; omega)
    gi_wp2
    refine hR.mono ?_
    rintro e W3 (⟨rfl, hJ3, hk3⟩ | ⟨rfl, hJx3⟩)
    · gi_wp2
      go_roundw
      case rel => exact ⟨k + 1, by omega, by simp, by rw [tk]; exact hJ3, hnx.trans hk3⟩
      case measure => simp [Go.RowKit.intOf]; omega
    · gi_wp2
      refine bodyPost_ret (results_none rfl _ _ _) rfl ?_
      exact ⟨⟨_, rfl⟩, .inr ⟨k + 1, by omega, by rw [tk]; exact hJx3⟩⟩
  · obtain rfl : k = zs.length := by omega
    gi_wp2
    go_end0
    rw [List.take_length] at hJs
    exact ⟨⟨_, rfl⟩, .inl hJs⟩
set_option maxHeartbeats 1000000 in
theorem valuesOf (A0 : Option Addr) (n0 c0 : Nat) (w : World) :
 Calls Try.prog 127 #[.slice A0 n0 c0] w fun e w' => ∃ Bs, e = .returned (.func (.func 134) #[] #[.pointer (some ⟨Bs, 0, none⟩)]) ∧ Bs < w'.heap.size ∧ w'.cell? ⟨Bs, 0, none⟩ = some (.slice A0 n0 c0) ∧ Below w.heap.size w w' := by
 go_enter Try.func127, Try.ntmps127
 go_wp2
 go_ret
 exact ⟨_, rfl, by simp, by simp [go_sem], (Below.refl _ _).alloc (Nat.le_refl _) _⟩
theorem infoI : (Try.prog.info? 2).map (fun i => (i.zero, i.size, i.bytes)) = some (some (.int .i64 0), 1, 8) := by kernel_rfl
set_option maxRecDepth 100000 in
set_option maxHeartbeats 4000000 in
theorem appSeq (n : Nat) (hn : 2 ≤ n) (gf : Nat) (lb : Array Value) (eg : ∀ args w, (callFunc gf args).run Try.prog w = .ok (.enter gf args) w) (zs : List Int) (Sp : List Int → Prop) (hlen : zs.length ≤ 1048576) (w : World)
 (hseq : ∀ w1, Below w.heap.size w w1 → SeqStopsK Fence.wide (n - 1) Try.prog gf lb (fun x : Int => #[Value.int .i64 x]) (Below w.heap.size) (fun ys => ys = zs) Sp zs.length w1) :
 CallsIn Fence.wide n Try.prog 147 #[.slice none 0 0, .func (.func gf) #[] lb] w fun e w' => ∃ v, e = .returned v ∧ w'.ownsRow w.heap.size 2 1 v zs.length (zs.map (Value.int .i64)) ∧ (v = .slice none 0 0 ↔ zs = []) ∧ Below w.heap.size w w' := by
 have h1 : 1 ≤ n := by omega
 obtain ⟨i0, hi, hz0, hz1, hz2⟩ := info_parts infoI
 refine callsIn_of_wp_marks Try.func147 rfl trivial ?_ rfl
 simp only [Try.ntmps147, List.size_toArray, List.length_cons, List.length_nil, Nat.reduceAdd, Nat.reduceSub, Array.replicate_succ, Array.replicate_zero, List.push_toArray, List.append_toArray, List.nil_append, List.cons_append]
 gi_wp2
 have bS := Boxed.new w 37 (.slice none 0 0)
 have hB0 : Below w.heap.size w (w.alloc (.cells #[.slice none 0 0] 37)) := (Below.refl _ w).alloc (Nat.le_refl _) _
 refine wpIn_rangeFunc_ownG rfl h1 (gf := gf) (lb := lb) rfl trivial eg (hseq _ hB0) belowK_t (belowK_b (by simp)) (Below.refl _ _) (fun _ => rfl)
  (fun pre W => (∃ v, Boxed W w.heap.size 37 v ∧ W.ownsRow w.heap.size 2 1 v pre.length (pre.map (Value.int .i64)) ∧ (v = .slice none 0 0 ↔ pre = [])) ∧ Below w.heap.size w W)
  (fun _ _ _ => False)
  (OwnFrom.and (Own.from (holdsRow_own w.heap.size w.heap.size 37 2 1 (fun pre : List Int => pre.length) (fun pre => pre.map (Value.int .i64)) (fun pre v => v = .slice none 0 0 ↔ pre = [])) _) (ownFrom_below (Nat.le_refl _) (by simp)))
  (fun _ _ _ _ _ hs _ _ => hs)
  ⟨⟨_, bS, World.ownsRow_nil _ _ _ _, by simp⟩, hB0⟩
  (fun x => { tmps := #[.slice none 0 0, .func (.func gf) #[] lb, .pointer (some ⟨w.heap.size, 0, none⟩), undef, .slice none 0 0, .int .i64 x, .func (.func gf) #[] lb, .int .i64 x, undef, undef, undef, undef, undef], defers := [] }) ?assign ?body ?done ?stop
 case assign =>
  intro l x W K hK
  gi_wp2
  exact hK
 case body =>
  rintro l pre x W ⟨⟨v, hv, hrow, hnil⟩, hB⟩ hpl
  have hc := hv.cell
  have hf := hv.frozen
  have hle : w.heap.size ≤ w.heap.size := Nat.le_refl _
  gi_wp2_with (first
   | (gi_at_builtin; refine wpListIn_append_own _ rfl _ _ 37 rfl w.heap.size 2 i0 (.int .i64 0) 1 8 Try.underlying37 hi hz0 hz1 hz2 rfl (by decide) _ _ _ rfl (hrow.alloc _) ⟨W.heap.size, 0, none⟩ 1 1 [.int .i64 x] rfl rfl (cell_one_new _ _ _) (by simp [Value.oneCell']) (by have : maxLen = 9223372036854775807 := rfl; omega) (by omega) (by have := hB.size; simp; omega) ?_; intro v' w1 hown' hgrow _; obtain ⟨g', cap', rfl⟩ := ownsRow_succ hown'; obtain ⟨hv1, hv2, hr2, hk2, hb2⟩ := hv.appended (by decide) hrow hB.size hle hown' hgrow; have hc1 := hv1.cell; have hf1 := hv1.frozen)
   | gi_in)
  exact ⟨hk2.from _, hb2, ⟨_, hv2, by simpa using hr2, by simp⟩, hB.trans hb2⟩
 case done =>
  rintro D ys W hD rfl ⟨⟨v, hv, hrow, hnil⟩, hB⟩ hK
  have hc := hv.cell
  gi_wp2
  refine ⟨by simp, .inl ⟨_, _, rfl, run_takeDeferred hK, ?_⟩⟩
  exact ⟨_, results_tmp rfl _ _ _, v, rfl, ownsRow_putObj hrow _ hK rfl, hnil, hB.trans (belowK_b (w := w) (Nat.le_refl _) W D _ _ (by simp at hD; omega) hK rfl rfl)⟩
 case stop =>
  rintro D c pre W _ _ h _
  exact h.elim
set_option maxHeartbeats 1000000 in
theorem collectOf (n : Nat) (hn : 3 ≤ n) (gf : Nat) (lb : Array Value) (eg : ∀ args w, (callFunc gf args).run Try.prog w = .ok (.enter gf args) w) (zs : List Int) (Sp : List Int → Prop) (hlen : zs.length ≤ 1048576) (w : World)
 (hseq : ∀ w1, Below w.heap.size w w1 → SeqStopsK Fence.wide (n - 1 - 1) Try.prog gf lb (fun x : Int => #[Value.int .i64 x]) (Below w.heap.size) (fun ys => ys = zs) Sp zs.length w1) :
 CallsIn Fence.wide n Try.prog 133 #[.func (.func gf) #[] lb] w fun e w' => ∃ v, e = .returned v ∧ w'.ownsRow w.heap.size 2 1 v zs.length (zs.map (Value.int .i64)) ∧ (v = .slice none 0 0 ↔ zs = []) ∧ Below w.heap.size w w' := by
 have h1 : 1 ≤ n := by omega
 have ha := appSeq (n - 1) (by omega) gf lb eg zs Sp hlen w hseq
 have hfS : Fence.wide.fn 147 := trivial
 refine callsIn_of_wp Try.func133 rfl trivial ?_ rfl
 simp only [Try.ntmps133, List.size_toArray, List.length_cons, List.length_nil, Nat.reduceAdd, Nat.reduceSub, Array.replicate_succ, Array.replicate_zero, List.push_toArray, List.append_toArray, List.nil_append, List.cons_append]
 gi_wp2_with (gi_at_call 147; refine ha.mono ?_; rintro e w' ⟨v, rfl, hrow, hnil, hb⟩)
 go_ret
 exact ⟨v, rfl, hrow, hnil, hb⟩
set_option maxRecDepth 100000 in
set_option maxHeartbeats 2000000 in
theorem sortedSeq (n : Nat) (hn : 4 ≤ n) (gf : Nat) (lb : Array Value) (eg : ∀ args w, (callFunc gf args).run Try.prog w = .ok (.enter gf args) w) (zs : List Int) (Sp : List Int → Prop) (hlen : zs.length ≤ 1048576) (w : World)
 (hseq : ∀ w1, Below w.heap.size w w1 → SeqStopsK Fence.wide (n - 1 - 1 - 1) Try.prog gf lb (fun x : Int => #[Value.int .i64 x]) (Below w.heap.size) (fun ys => ys = zs) Sp zs.length w1) :
 CallsIn Fence.wide n Try.prog 126 #[.func (.func gf) #[] lb] w fun e w' => ∃ v, e = .returned v ∧ w'.ownsRow w.heap.size 2 1 v zs.length ((srt zs).map (Value.int .i64)) ∧ Below w.heap.size w w' := by
 have h1 : 1 ≤ n := by omega
 have ha := collectOf (n - 1) (by omega) gf lb eg zs Sp hlen w hseq
 have hfS : Fence.wide.fn 133 := trivial
 have hfT : Fence.wide.fn 118 := trivial
 refine callsIn_of_wp Try.func126 rfl trivial ?_ rfl
 simp only [Try.ntmps126, List.size_toArray, List.length_cons, List.length_nil, Nat.reduceAdd, Nat.reduceSub, Array.replicate_succ, Array.replicate_zero, List.push_toArray, List.append_toArray, List.nil_append, List.cons_append]
 gi_wp2_with (gi_at_call 133; refine ha.mono ?_; rintro e W ⟨v, rfl, hrow, hnil, hb⟩)
 rcases hrow.2 with ⟨rfl, hz⟩ | ⟨gb, cap, cur, rfl, hbase, hgb, r1, r2, r3, r4⟩
 · have hss : zs = [] := List.eq_nil_of_length_eq_zero hz
   subst hss
   have cS := callsIn_wide (n := n - 1) |>.2 (AnyM.slices_Sort_int_none Try.sortA none 0 W)
   change CallsIn _ _ Try.prog 118 _ _ _ at cS
   gi_wp2_with (gi_at_call 118; refine cS.mono ?_; rintro e w' ⟨rfl, rfl⟩)
   go_ret
   exact ⟨.slice none 0 0, rfl, by simpa [srt] using hrow, hb⟩
 · have hH : Holds encZ W gb 0 zs.toArray := holds_of_block_i hgb (by rw [Nat.mul_one] at r4; exact r4)
   have hgl : gb < W.heap.size := (Array.getElem?_eq_some_iff.1 hgb).1
   have cS := callsIn_wide (n := n - 1) |>.2 (AnyM.slices_Sort_int Try.sortA gb 0 cap zs W hH hgl (by omega))
   change CallsIn _ _ Try.prog 118 _ _ _ at cS
   gi_wp2_with (gi_at_call 118; refine cS.mono ?_; rintro e w' ⟨rfl, nn, os, rfl⟩)
   go_ret
   exact ⟨_, rfl, by have := ownsRow_sorted_i (w := W) (n := nn) (os := os) (ss := zs) (ts := srt zs) (srt_len zs) hbase hgb r1 r2 r3; exact this, hb.grown (grownBy_sorted_i _) hb.size (fun j hj => by cases hj; exact hbase)⟩
theorem sortedOf (Bs : Nat) (A0 : Option Addr) (c0 : Nat) (zs : List Int) (w : World) (hlen : zs.length ≤ 1048576) (hlt : Bs < w.heap.size) (hBs : w.cell? ⟨Bs, 0, none⟩ = some (.slice A0 zs.length c0)) (hr : Kd.C (Kd.int .i64) w A0 zs.length zs) :
 Calls Try.prog 126 #[.func (.func 134) #[] #[.pointer (some ⟨Bs, 0, none⟩)]] w fun e w' => ∃ v, e = .returned v ∧ Kd.R (Kd.int .i64) 2 w' w.heap.size (fun _ => True) v (srt zs) ∧ Below w.heap.size w w' := by
 refine callsIn_wide (n := 5) |>.1 ?_
 have eg : ∀ args w, (callFunc 134 args).run Try.prog w = .ok (.enter 134 args) w := enters_of Try.func134 (by kernel_rfl) rfl
 refine (sortedSeq 5 (by omega) _ _ eg zs (fun _ => True) hlen w ?_).mono ?_
 · intro w1 hb1 l J Jx W hW _ _ hY h0
   have hb2 : Below w.heap.size w W := hb1.trans (hW.mono hb1.size)
   refine (vals1 _ (by omega) l Bs w.heap.size A0 c0 zs w J Jx hlen (fun W' hb' => Kd.C_below hr hb') hY W hb2 ((hb2.cell (p := ⟨Bs, 0, none⟩) hlt).trans hBs) h0).mono ?_
   rintro e W' ⟨he, hj | ⟨k, hk, hj⟩⟩
   · exact ⟨he, .inl ⟨_, rfl, hj⟩⟩
   · exact ⟨he, .inr ⟨_, trivial, hj⟩⟩
 · rintro e w' ⟨v, rfl, hrow, hb⟩
   refine ⟨v, rfl, ⟨fun _ _ => trivial, _, by rw [srt_len]; exact hrow, intKd_reps _⟩, hb⟩
end Go.Proofs.Ythkccaclmodjiaa.I
end
section
namespace Go.Proofs.Ythkccaclmodjiaa.I
open Go.RowKit Go.Proofs.YthkccaclmodjiaaW.PrintWords Go.Proofs.YthkccaclmodjiaaW.PrintLast Go.Proofs.YthkccaclmodjiaaW.PrintMore
attribute [local go_sem] max2_int min2_int max_two min_two max_three min_three max_four min_four
set_option linter.unusedVariables false
set_option linter.unusedSimpArgs false
def sortedList (l : List Int) : Option (List Int) := if l.length ≤ 1048576 then some (srt l) else none
theorem sortedList_some {l r : List Int} (h : sortedList l = some r) : l.length ≤ 1048576 ∧ srt l = r := by
 unfold sortedList at h
 by_cases c : l.length ≤ 1048576
 · rw [if_pos c] at h
   exact ⟨c, Option.some.inj h⟩
 · rw [if_neg c] at h
   cases h
def impl_isOrder.l0 : Nat → List Int → Int → List Int → Int → Int → Option (Bool)
 | 0, _, _, _, _, _ => none
 | k + 1, x0, x1, x11, x12, x13 => if x13 < x12 then (if 0 ≤ x13 then (if x13 < (x11.length : Int) then (if (rd x11 x13) = x13 then (impl_isOrder.l0 k x0 x1 x11 x12 (wrap64 (x13 + 1))) else (some false)) else (none)) else (none)) else (some ((x0.length : Int) == x1))
def impl_isOrder.f (k : Nat) (l0 : List Int) (a1 : Int) : Option (Bool) := (sortedList l0).bind fun t364 => (impl_isOrder.l0 k l0 a1 t364 (t364.length : Int) 0)
theorem impl_isOrder.mono_l : ∀ k, (∀ y0 y1 y2 y3 y4, LeO (impl_isOrder.l0 k y0 y1 y2 y3 y4) (impl_isOrder.l0 (k + 1) y0 y1 y2 y3 y4))
 | 0 => fun _ _ _ _ _ r h => by simp [impl_isOrder.l0] at h
 | k + 1 => by
  have ih0 := impl_isOrder.mono_l k
  · intro y0 y1 y2 y3 y4
    unfold impl_isOrder.l0
    repeat' first
    | (with_reducible exact ih0 _ _ _ _ _)
    | (with_reducible exact LeO.refl _)
    | (with_reducible exact LeO.none _)
    | (with_reducible refine LeO.ite ?_ ?_)
    | (with_reducible refine LeO.bind ?_ (fun _ => ?_))
    | exact ih0 _ _ _ _ _
    | exact LeO.none _
    | refine LeO.ite ?_ ?_
    | refine LeO.bind ?_ (fun _ => ?_)
theorem impl_isOrder.mono : ∀ a0 a1 k, LeO (impl_isOrder.f k a0 a1) (impl_isOrder.f (k + 1) a0 a1) := by
 intro a0 a1 k
 have ih0 := impl_isOrder.mono_l k
 unfold impl_isOrder.f
 repeat' first
  | (with_reducible exact ih0 _ _ _ _ _)
  | (with_reducible exact LeO.refl _)
  | (with_reducible exact LeO.none _)
  | (with_reducible refine LeO.ite ?_ ?_)
  | (with_reducible refine LeO.bind ?_ (fun _ => ?_))
  | exact ih0 _ _ _ _ _
  | exact LeO.none _
  | refine LeO.ite ?_ ?_
  | refine LeO.bind ?_ (fun _ => ?_)
set_option maxHeartbeats 8000000 in
set_option maxRecDepth 100000 in
theorem impl_isOrder.calls (k : Nat) (A0 : Option Addr) (c0 : Nat) (l0 : List Int) (a1 : Int) (r : Bool) (w : World) (hr0 : Kd.C (Kd.int .i64) w A0 l0.length l0) (hc0 : l0.length ≤ c0) (h : impl_isOrder.f k l0 a1 = some r) :
 Calls Try.prog 117 #[.slice A0 l0.length c0, .int .i64 a1] w fun e w' => e = .returned (.bool r) ∧ Below w.heap.size w w' := by
 have HR0 := Aside0.mk hr0
 have HC0 := Aside0.mk hc0
 clear hr0 hc0
 have HB := Aside0.mk (Below.refl w.heap.size w)
 have H : ((sortedList l0).bind fun t364 => (impl_isOrder.l0 k l0 a1 t364 (t364.length : Int) 0)) = some r := h
 clear h
 replace H := Option.bind_eq_some_iff.mp H
 obtain ⟨t364, A30, H⟩ := H
 replace H : (impl_isOrder.l0 k l0 a1 t364 (t364.length : Int) 0) = some r := H
 have A3 := Aside0.mk A30
 clear A30
 have H' := Aside0.mk H
 clear H
 go_enter Try.func117, Try.ntmps117
 obtain ⟨HLEN0, E364⟩ := sortedList_some A3.out
 have HLEN := Aside0.mk HLEN0
 clear HLEN0
 subst E364
 go_wp2_with (first | ((with_reducible refine gate_callee (f := 127) rfl ?_); refine goesL_ (some 9) rfl rfl Try.func127 (by kernel_rfl) rfl #[.slice A0 l0.length c0] rfl (by (try simp only [List.map_toArray, List.map_cons, List.map_nil]); first | done | rfl | (simp only [List.length_drop, List.length_take]; rfl)) ?_; (with_reducible refine (valuesOf A0 l0.length c0 _).mono ?_); rintro e w3 ⟨Bs, rfl, hlt, hcB, hb⟩; refine ⟨_, rfl, ?_⟩; have n1_ := Aside0.mk (below_step (blB HB) hb); clear HB; have HB := n1_; have HLT := Aside0.mk hlt; have HCB := Aside0.mk hcB; clear n1_ hb hlt hcB) | ((with_reducible refine gate_callee (f := 126) rfl ?_); refine goesL_ (some 10) rfl rfl Try.func126 (by kernel_rfl) rfl #[.func (.func 134) #[] #[.pointer (some ⟨Bs, 0, none⟩)]] rfl (by (try simp only [List.map_toArray, List.map_cons, List.map_nil]); first | done | rfl | (simp only [List.length_drop, List.length_take]; rfl)) ?_; refine (sortedOf Bs A0 c0 l0 _ HLEN.out (by first | exact HLT.out | simpa [go_sem] using HLT.out) (by first | exact HCB.out | simpa [go_sem] using HCB.out) (Kd.C_below HR0.out (blB HB))).mono ?_; rintro e w4 ⟨v365, rfl, ho0, hb⟩; refine ⟨_, rfl, ?_⟩; have n0_ := Aside0.mk (Kd.R_lower ho0 (below_size (blB HB))); have n1_ := Aside0.mk (below_step (blB HB) hb); clear HB; have HO366 := n0_; have HB := n1_; clear n0_ n1_; (try clear hb); (try clear ho0); obtain ⟨Ao5, co5, eo5⟩ := Kd.R_slice HO366.out; subst eo5))
 go_loopg [13] k (fun kq v13 w' => ∃ (x13_1 : Int), v13 = .int .i64 x13_1 ∧ Aside0 (impl_isOrder.l0 kq l0 a1 (srt l0) ((srt l0).length : Int) x13_1 = some r) ∧ Aside0 (kq ≤ k) ∧ Aside0 (Kd.R (Kd.int .i64) 2 w' w.heap.size (fun _ => True) (.slice Ao5 (srt l0).length co5) (srt l0)) ∧ Aside0 (Below w.heap.size w w'))
 case atStart => exact ⟨(0), (by first | rfl | (simp; done) | (simp [*]; done)), H', ⟨Nat.le_refl _⟩, ⟨mvR HO366⟩, ⟨blB HB⟩⟩
 case round =>
  clear H'
  try clear c1
  try clear p2
  obtain ⟨x13_1, rfl, HA, HK1, HO_11, HB⟩ := hrel
  cases gk with
  | zero => exact absurd HA.out (by simp [impl_isOrder.l0])
  | succ k1 =>
   have H := HA.out
   clear HA
   simp only [impl_isOrder.l0] at H
   by_cases c6 : x13_1 < ((srt l0).length : Int)
   · rw [if_pos c6] at H
     have c6b0 : decide (x13_1 < ((srt l0).length : Int)) = true := decide_eq_true c6
     clear c6
     by_cases c7 : 0 ≤ x13_1
     · rw [if_pos c7] at H
       have c7b0 : decide (0 ≤ x13_1) = true := decide_eq_true c7
       clear c7
       by_cases c8 : x13_1 < ((srt l0).length : Int)
       · rw [if_pos c8] at H
         have c8b0 : decide (x13_1 < ((srt l0).length : Int)) = true := decide_eq_true c8
         clear c8
         by_cases c9 : (rd (srt l0) x13_1) = x13_1
         · rw [if_pos c9] at H
           have c9b0 : ((rd (srt l0) x13_1) == x13_1) = true := beq_iff_eq.mpr c9
           have c9b1 : ((rd (srt l0) x13_1) != x13_1) = false := bne_eq_false_iff_eq.mpr c9
           clear c9
           have H' := Aside0.mk H
           clear H
           have p367 : 0 ≤ (x13_1 : Int) := dtB
           have q367 : x13_1 < ((srt l0).length : Int) := dtB
           obtain ⟨ad367, e367, hx367_0⟩ := Kd.at_int (Kd.R_reads' HO_11.out).2.2 x13_1 p367 q367
           cases e367
           replace p367 := eq_true p367
           replace q367 := eq_true q367
           go_wp2
           go_roundg k1
           case measure => have := HK1.out; omega
           case rel => exact ⟨(wrap64 (x13_1 + 1)), (by first | rfl | (simp; done) | (simp [*]; done)), H', ⟨by have := HK1.out; omega⟩, ⟨mvR HO_11⟩, ⟨blB HB⟩⟩
         · rw [if_neg c9] at H
           have c9b0 : ((rd (srt l0) x13_1) == x13_1) = false := beq_eq_false_iff_ne.mpr c9
           have c9b1 : ((rd (srt l0) x13_1) != x13_1) = true := bne_iff_ne.mpr c9
           obtain rfl := Option.some.inj H
           have p367 : 0 ≤ (x13_1 : Int) := dtB
           have q367 : x13_1 < ((srt l0).length : Int) := dtB
           obtain ⟨ad367, e367, hx367_0⟩ := Kd.at_int (Kd.R_reads' HO_11.out).2.2 x13_1 p367 q367
           cases e367
           replace p367 := eq_true p367
           replace q367 := eq_true q367
           go_wp2
           go_ret
           exact ⟨by first | rfl | (simp [errW_none, errW_some] <;> rfl) | (simp [*, errW_none, errW_some] <;> rfl), blB HB⟩
       · rw [if_neg c8] at H
         exact absurd H (by simp)
     · rw [if_neg c7] at H
       exact absurd H (by simp)
   · rw [if_neg c6] at H
     have c6b0 : decide (x13_1 < ((srt l0).length : Int)) = false := decide_eq_false c6
     clear c6
     obtain rfl := Option.some.inj H
     go_wp2
     go_ret
     exact ⟨by first | rfl | (simp [errW_none, errW_some] <;> rfl) | (simp [*, errW_none, errW_some] <;> rfl), blB HB⟩
end Go.Proofs.Ythkccaclmodjiaa.I
end
