import Derived.Test.YtggjdcijplgpdaazEDayAllEMem
import Derived.Test.YtggjdcijplgpdaazEDayAllEToStS
import Derived.Test.YtggjdcijplgpdaazEDayAllEIdx8
import Derived.Shelf.Abstract
section
namespace Go.Proofs.Ytggjdcijplgpdaa.H
open Go.RowKit Go.Proofs.YtggjdcijplgpdaaW.PrintWords Go.Proofs.YtggjdcijplgpdaaW.PrintLast Go.Proofs.YtggjdcijplgpdaaW.PrintMore
attribute [local go_sem] max2_int min2_int max_two min_two max_three min_three max_four min_four
set_option linter.unusedVariables false
set_option linter.unusedSimpArgs false
structure RowC (cap : Nat) (l : List S55) (cs : Array Value) : Prop where
  size : cs.size = cap * 25
  len : l.length ≤ cap
  max : cap ≤ maxLen
  at_ : ∀ k, k < l.length → ∀ j, j < 25 → cs[k * 25 + j]? = some (encSt j ((l.getD k z55).at_ j))
structure RowSt (W : World) (g cap : Nat) (l : List S55) : Prop where
  blk : ∃ cs, W.heap[g]? = some (.cells cs 55 (0, 0)) ∧ RowC cap l cs
theorem row_of_R {W : World} {base : Nat} {ok : Nat → Prop} {v : Value} {l : List S55} (h : Kd.R k55 55 W base ok v l) (hp : 0 < l.length) : ∃ g cap, v = .slice (some ⟨g, 0, none⟩) l.length cap ∧ base ≤ g ∧ ok g ∧ RowSt W g cap l := by
  obtain ⟨h1, inner, ho, hr⟩ := h
  rcases ho.2 with ⟨_, hn⟩ | ⟨g, cap, cur, hv, hb, hh, hnc, hcm, hcs, ht⟩
  · omega
  · subst hv
    refine ⟨g, cap, rfl, hb, h1 g (by simp [Value.ownBlock]), ⟨⟨cur, hh, hcs, hnc, hcm, fun k hk j hj => ?_⟩⟩⟩
    have hM := k55_openM (hr.2 k _ (List.getElem?_eq_getElem hk))
    have hz : k55.sz = 25 := rfl
    rw [hz] at hM ht
    have hS : (inner.drop (k * 25)).take 25 = stC l[k] := hM
    have hg : l.getD k z55 = l[k] := by rw [List.getD_eq_getElem?_getD, List.getElem?_eq_getElem hk]; rfl
    rw [hg, ← stC_get _ j hj, ← hS, List.getElem?_take_of_lt hj, List.getElem?_drop, ← ht, List.getElem?_take_of_lt (by omega), Array.getElem?_toList]
theorem R_of_row {W : World} {base : Nat} {ok : Nat → Prop} {g cap : Nat} {l : List S55} (h : RowSt W g cap l) (hb : base ≤ g) (hok : ok g) : Kd.R k55 55 W base ok (.slice (some ⟨g, 0, none⟩) l.length cap) l := by
  obtain ⟨cs, hh, hC⟩ := h.blk
  have hz : k55.sz = 25 := rfl
  have hl : l.length * 25 ≤ cs.size := by rw [hC.size]; exact Nat.mul_le_mul_right _ hC.len
  refine ⟨fun k hk => ?_, cs.toList.take (l.length * 25), ⟨?_, .inr ⟨g, cap, cs, rfl, hb, hh, hC.len, hC.max, by rw [hz]; exact hC.size, by rw [hz]⟩⟩, ?_, fun k s hs => ?_⟩
  · have : g = k := by simpa [Value.ownBlock] using hk
    exact this ▸ hok
  · rw [hz, List.length_take]; exact Nat.min_eq_left (by rw [Array.length_toList]; exact hl)
  · rw [hz, List.length_take]; exact Nat.min_eq_left (by rw [Array.length_toList]; exact hl)
  · obtain ⟨hk, rfl⟩ := List.getElem?_eq_some_iff.mp hs
    rw [hz]
    have hg : l.getD k z55 = l[k] := by rw [List.getD_eq_getElem?_getD, List.getElem?_eq_getElem hk]; rfl
    have hS : ((cs.toList.take (l.length * 25)).drop (k * 25)).take 25 = stC l[k] := by
      refine List.ext_getElem? fun j => ?_
      by_cases hj : j < 25
      · rw [List.getElem?_take_of_lt hj, List.getElem?_drop, List.getElem?_take_of_lt (by omega), Array.getElem?_toList, hC.at_ k hk j hj, stC_get _ j hj, hg]
      · rw [List.getElem?_take_eq_none (by omega), List.getElem?_eq_none (show (stC l[k]).length ≤ j by show 25 ≤ j; omega)]
    rw [hS]
    exact k55_stM _ _ _ _
theorem C_of_row {W : World} {g cap : Nat} {l : List S55} (h : RowSt W g cap l) : Kd.C k55 W (some ⟨g, 0, none⟩) l.length l := (Kd.R_reads' (R_of_row (ok := fun _ => True) h (Nat.zero_le _) trivial)).2.2
theorem elem_of_row {W : World} {g cap : Nat} {l : List S55} (h : RowSt W g cap l) {k : Nat} (hk : k < l.length) : ∃ cs, RowC cap l cs ∧ InSt W g (k * 25) 55 cs (l.getD k z55) W := by
  obtain ⟨cs, hh, hC⟩ := h.blk
  exact ⟨cs, hC, InSt.refl hh (hC.at_ k hk)⟩
theorem row_of_elem {W0 W : World} {g cap : Nat} {l : List S55} {cs : Array Value} {k : Nat} {s : S55} (hC : RowC cap l cs) (hk : k < l.length) (E : InSt W0 g (k * 25) 55 cs s W) : RowSt W g cap (l.set k s) := by
  obtain ⟨cs', hh, hs, ho, hi⟩ := E.blk
  refine ⟨⟨cs', hh, by rw [hs]; exact hC.size, by rw [List.length_set]; exact hC.len, hC.max, fun q hq j hj => ?_⟩⟩
  rw [List.length_set] at hq
  by_cases e : q = k
  · subst e
    rw [hi j hj, List.getD_eq_getElem?_getD, List.getElem?_set_self hk]
    rfl
  · rw [ho _ (by omega), hC.at_ q hq j hj, List.getD_eq_getElem?_getD, List.getD_eq_getElem?_getD, List.getElem?_set_ne (fun h => e h.symm)]
theorem RowSt.lt {W : World} {g cap : Nat} {l : List S55} (h : RowSt W g cap l) : g < W.heap.size := by
  obtain ⟨cs, hh, _⟩ := h.blk
  exact blk_lt hh
theorem RowSt.move {W W' : World} {g cap : Nat} {l : List S55} (h : RowSt W g cap l) (e : W'.heap[g]? = W.heap[g]?) : RowSt W' g cap l := by
  obtain ⟨cs, hh, hC⟩ := h.blk
  exact ⟨⟨cs, e.trans hh, hC⟩⟩
end Go.Proofs.Ytggjdcijplgpdaa.H
end
section
namespace Go.Proofs.Ytggjdcijplgpdaa.H
open Go.RowKit Go.Proofs.YtggjdcijplgpdaaW.PrintWords Go.Proofs.YtggjdcijplgpdaaW.PrintLast Go.Proofs.YtggjdcijplgpdaaW.PrintMore
attribute [local go_sem] max2_int min2_int max_two min_two max_three min_three max_four min_four
set_option linter.unusedVariables false
set_option linter.unusedSimpArgs false
structure InH (W0 : World) (g g2 cap : Nat) (l : List S55) (a1 a2 a3 : Int) (W : World) : Prop where
  hs : W.heap[g]? = some (.cells #[.slice (some ⟨g2, 0, none⟩) l.length cap, .int .i16 a1, .int .i8 a2, .int .i16 a3] 32 (0, 0))
  row : RowSt W g2 cap l
  os : W.os = W0.os
  tape : W.tape = W0.tape
  output : W.output = W0.output
  size : W0.heap.size ≤ W.heap.size
  block : ∀ b, b < W0.heap.size → b ≠ g → b ≠ g2 → W.heap[b]? = W0.heap[b]?
section
variable {W0 W W' : World} {g g2 cap : Nat} {l : List S55} {a1 a2 a3 : Int}
theorem InH.start (hs : W.heap[g]? = some (.cells #[.slice (some ⟨g2, 0, none⟩) l.length cap, .int .i16 a1, .int .i8 a2, .int .i16 a3] 32 (0, 0))) (row : RowSt W g2 cap l) : InH W g g2 cap l a1 a2 a3 W := ⟨hs, row, rfl, rfl, rfl, Nat.le_refl _, fun _ _ _ _ => rfl⟩
theorem InH.ne (h : InH W0 g g2 cap l a1 a2 a3 W) : g ≠ g2 := by
  obtain ⟨cs, hh, _⟩ := h.row.blk
  exact blk_ne h.hs hh (by decide)
theorem InH.lt (h : InH W0 g g2 cap l a1 a2 a3 W) : g < W.heap.size := blk_lt h.hs
theorem InH.step (h : InH W0 g g2 cap l a1 a2 a3 W) (hb : Below W.heap.size W W') : InH W0 g g2 cap l a1 a2 a3 W' :=
  ⟨blk_below h.hs hb, h.row.move (hb.block _ h.row.lt), hb.os.trans h.os, hb.tape.trans h.tape, hb.output.trans h.output, Nat.le_trans h.size hb.size, fun b h1 h2 h3 => (hb.block b (Nat.lt_of_lt_of_le h1 h.size)).trans (h.block b h1 h2 h3)⟩
theorem InH.trans {W1 : World} (h1 : InH W0 g g2 cap l a1 a2 a3 W1) {l' : List S55} {b1 b2 b3 : Int} (h : InH W1 g g2 cap l' b1 b2 b3 W) : InH W0 g g2 cap l' b1 b2 b3 W :=
  ⟨h.hs, h.row, h.os.trans h1.os, h.tape.trans h1.tape, h.output.trans h1.output, Nat.le_trans h1.size h.size, fun b x y z => (h.block b (Nat.lt_of_lt_of_le x h1.size) y z).trans (h1.block b x y z)⟩
theorem InH.cell (h : InH W0 g g2 cap l a1 a2 a3 W) (i : Nat) : W.cell? ⟨g, i, none⟩ = (#[.slice (some ⟨g2, 0, none⟩) l.length cap, .int .i16 a1, .int .i8 a2, .int .i16 a3] : Array Value)[i]? := blk_cell h.hs i
theorem InH.free (h : InH W0 g g2 cap l a1 a2 a3 W) (i : Nat) : W.frozen? ⟨g, i, none⟩ = false := blk_frozen h.hs i
theorem InH.put_elem (h : InH W0 g g2 cap l a1 a2 a3 W) {cs : Array Value} {k : Nat} {s : S55} (hC : RowC cap l cs) (hk : k < l.length) (E : InSt W g2 (k * 25) 55 cs s W') : InH W0 g g2 cap (l.set k s) a1 a2 a3 W' :=
  ⟨by rw [List.length_set]; exact (E.gr.block g h.lt (fun e => h.ne (Option.some.inj e))).trans h.hs, row_of_elem hC hk E, E.gr.os.trans h.os, E.gr.tape.trans h.tape, E.gr.output.trans h.output, Nat.le_trans h.size E.gr.size,
   fun b x y z => (E.gr.block b (Nat.lt_of_lt_of_le x h.size) (fun e => z (Option.some.inj e))).trans (h.block b x y z)⟩
theorem InH.today (h : InH W0 g g2 cap l a1 a2 a3 W) (v : Int) : InH W0 g g2 cap l a1 a2 v (W.setCell ⟨g, 3, none⟩ (.int .i16 v)) :=
  ⟨by simpa using blk_set h.hs 3 (.int .i16 v), h.row.move (Below.heap_setCell W ⟨g, 3, none⟩ _ g2 (fun e => h.ne e.symm)), h.os, h.tape, h.output, Nat.le_trans h.size (by simp),
   fun b x y z => (Below.heap_setCell W ⟨g, 3, none⟩ _ b y).trans (h.block b x y z)⟩
theorem InH.below {w0 : World} (h : InH W0 g g2 cap l a1 a2 a3 W) (hb : Below w0.heap.size w0 W0) (h1 : w0.heap.size ≤ g) (h2 : w0.heap.size ≤ g2) : Below w0.heap.size w0 W :=
  hb.trans ⟨h.os, h.tape, h.output, h.size, fun k hk => h.block k (Nat.lt_of_lt_of_le hk hb.size) (by omega) (by omega)⟩
theorem InH.grown (h : InH W0 g g2 cap l a1 a2 a3 W) {row : Option Nat} (hg : W.grownBy W' row) (n1 : some g ≠ row) (n2 : some g2 ≠ row) (hr : ∀ k, row = some k → W0.heap.size ≤ k) : InH W0 g g2 cap l a1 a2 a3 W' :=
  ⟨(hg.block g h.lt n1).trans h.hs, h.row.move (hg.block g2 h.row.lt n2), hg.os.trans h.os, hg.tape.trans h.tape, hg.output.trans h.output, Nat.le_trans h.size hg.size,
   fun b x y z => (hg.block b (Nat.lt_of_lt_of_le x h.size) (fun e => by have := hr b e.symm; omega)).trans (h.block b x y z)⟩
theorem InH.row_ne (h : InH W0 g g2 cap l a1 a2 a3 W) {base : Nat} {ok : Nat → Prop} {v : Value} {xs : List Int} (hr : Kd.R (Kd.int .i64) 2 W base ok v xs) : some g ≠ v.ownBlock ∧ some g2 ≠ v.ownBlock := by
  obtain ⟨cs, hh, _⟩ := h.row.blk
  exact ⟨Kd.R_ne hr h.hs (by decide), Kd.R_ne hr hh (by decide)⟩
theorem InH.keeps (h : InH W g g2 cap l a1 a2 a3 W) {l' : List S55} {b1 b2 b3 : Int} (h' : InH W g g2 cap l' b1 b2 b3 W') {base : Nat} {ok : Nat → Prop} {v : Value} {xs : List Int} (hr : Kd.R (Kd.int .i64) 2 W base ok v xs) : Kd.R (Kd.int .i64) 2 W' base ok v xs := by
  obtain ⟨cs, hh, _⟩ := h.row.blk
  have n1 := Kd.R_ne hr h.hs (by decide)
  have n2 := Kd.R_ne hr hh (by decide)
  exact Kd.R_mono (Kd.R_move (Kd.R_tight2 rfl (Kd.R_bound hr)) (fun k hk => h'.block k hk.2.2.2.1 (fun e => n1 (by rw [← e]; exact hk.1)) (fun e => n2 (by rw [← e]; exact hk.1)))) (fun k hk => hk.2.1)
end
end Go.Proofs.Ytggjdcijplgpdaa.H
end
section
namespace Go.Proofs.Ytggjdcijplgpdaa.H
open Go.RowKit Go.Proofs.YtggjdcijplgpdaaW.PrintWords Go.Proofs.YtggjdcijplgpdaaW.PrintLast Go.Proofs.YtggjdcijplgpdaaW.PrintMore
attribute [local go_sem] max2_int min2_int max_two min_two max_three min_three max_four min_four
set_option linter.unusedVariables false
set_option linter.unusedSimpArgs false
def PredOn (ik : IntKind) (g : Nat) (lb : Array Value) (p : Int → Bool) (zs : List Int) (w : World) : Prop :=
  ∀ (W : World) (x : Int), x ∈ zs → Below w.heap.size w W → Calls Try.prog g (#[.int ik x] ++ lb) W fun e w' => e = .returned (.bool (p x)) ∧ Below w.heap.size w w'
def idxP (p : Int → Bool) (zs : List Int) : Int := match zs.findIdx? p with
  | some i => (i : Int)
  | none => -1
theorem rd_getD (zs : List Int) (j : Nat) : rd zs (j : Int) = zs.getD j 0 := rfl
theorem rd_mem (zs : List Int) (j : Nat) (h : j < zs.length) : rd zs (j : Int) ∈ zs := by
  rw [rd_getD, List.getD_eq_getElem?_getD, List.getElem?_eq_getElem h]
  exact List.getElem_mem h
theorem idxP_hit (p : Int → Bool) (zs : List Int) (j : Nat) (h : j < zs.length) (hj : p (rd zs j) = true) (ho : ∀ i, i < j → p (rd zs (i : Nat)) = false) : idxP p zs = j := by
  have e : zs.findIdx? p = some j := by
    rw [List.findIdx?_eq_some_iff_getElem]
    refine ⟨h, ?_, fun i hi => ?_⟩
    · rw [rd_getD, List.getD_eq_getElem?_getD, List.getElem?_eq_getElem h] at hj
      exact hj
    · have := ho i hi
      rw [rd_getD, List.getD_eq_getElem?_getD, List.getElem?_eq_getElem (Nat.lt_trans hi h)] at this
      simpa using this
  unfold idxP
  rw [e]
theorem idxP_miss (p : Int → Bool) (zs : List Int) (ho : ∀ i, i < zs.length → p (rd zs (i : Nat)) = false) : idxP p zs = -1 := by
  have e : zs.findIdx? p = none := by
    rw [List.findIdx?_eq_none_iff]
    intro x hx
    obtain ⟨i, hi, rfl⟩ := List.getElem_of_mem hx
    have := ho i hi
    rw [rd_getD, List.getD_eq_getElem?_getD, List.getElem?_eq_getElem hi] at this
    exact this
  unfold idxP
  rw [e]
theorem idxP_any (p : Int → Bool) (zs : List Int) : decide (0 ≤ idxP p zs) = zs.any p := by
  unfold idxP
  cases h : zs.findIdx? p with
  | some i =>
    rw [List.findIdx?_eq_some_iff_getElem] at h
    obtain ⟨hi, hp, _⟩ := h
    have : zs.any p = true := List.any_eq_true.mpr ⟨_, List.getElem_mem hi, hp⟩
    rw [this]
    simp
  | none =>
    rw [List.findIdx?_eq_none_iff] at h
    have : zs.any p = false := by
      rw [List.any_eq_false]
      intro x hx
      simpa using h x hx
    rw [this]
    rfl
end Go.Proofs.Ytggjdcijplgpdaa.H
end
section
namespace Go.Proofs.Ytggjdcijplgpdaa.H
open Go.RowKit Go.Proofs.YtggjdcijplgpdaaW.PrintWords Go.Proofs.YtggjdcijplgpdaaW.PrintLast Go.Proofs.YtggjdcijplgpdaaW.PrintMore
attribute [local go_sem] max2_int min2_int max_two min_two max_three min_three max_four min_four
set_option linter.unusedVariables false
set_option linter.unusedSimpArgs false
section
set_option maxHeartbeats 8000000 in
set_option maxRecDepth 100000 in
theorem indexFunc_int64 (g : Nat) (lb : Array Value) (eg : ∀ args w, (callFunc g args).run Try.prog w = .ok (.enter g args) w) (p : Int → Bool) (A0 : Option Addr) (c0 : Nat) (l0 : List Int) (w : World)
    (hr0 : Kd.C (Kd.int .i64) w A0 l0.length l0) (hp : PredOn .i64 g lb p l0 w) :
    Calls Try.prog 85 #[.slice A0 l0.length c0, .func (.func g) #[] lb] w fun e w' => e = .returned (.int .i64 (idxP p l0)) ∧ Below w.heap.size w w' := by
  have HM := Kd.C_max hr0
  have HR0 := Aside0.mk hr0
  have HP := Aside0.mk hp
  clear hr0 hp
  go_enter Try.func85, Try.ntmps85
  go_wp2
  go_loopg [5, 8] l0.length (fun gg _ s8 wr => ∃ kk : Nat, kk ≤ l0.length ∧ l0.length - kk ≤ gg ∧ s8 = .int .i64 kk ∧ Aside0 (Below w.heap.size w wr) ∧ Aside0 (∀ j, j < kk → p (rd l0 (j : Nat)) = false))
  case atStart => exact ⟨0, Nat.zero_le _, by omega, rfl, ⟨Below.refl _ w⟩, ⟨fun j hj => absurd hj (Nat.not_lt_zero _)⟩⟩
  case round =>
    obtain ⟨kk, hkk, hg, rfl, BW, A⟩ := hrel
    by_cases hlt : kk < l0.length
    · have hltz : (kk : Int) < (l0.length : Int) := by omega
      obtain ⟨ad, e, hx⟩ := Kd.at_int (Kd.C_below HR0.out BW.out) (kk : Int) (by omega) hltz
      cases e
      have hcall := HP.out wr (rd l0 (kk : Nat)) (rd_mem l0 kk hlt) BW.out
      simp only [Int.toNat_natCast] at hx
      generalize hy : rd l0 ((kk : Nat) : Int) = y at hx hcall
      have B := Aside0.mk hy
      clear hy
      cases hq : p y with
      | true =>
        rw [hq] at hcall
        go_wp2_with ((with_reducible refine hcall.mono ?_); rintro e w' ⟨rfl, hb'⟩)
        go_ret
        refine ⟨?_, hb'⟩
        rw [idxP_hit p l0 kk hlt (by rw [B.out]; exact hq) A.out]
        rfl
      | false =>
        rw [hq] at hcall
        go_wp2_with ((with_reducible refine hcall.mono ?_); rintro e w' ⟨rfl, hb'⟩)
        go_roundg (l0.length - (kk + 1))
        case measure => omega
        case rel =>
          refine ⟨kk + 1, by omega, by omega, by go_num, ⟨hb'⟩, ⟨fun j hj => ?_⟩⟩
          by_cases e : j = kk
          · subst e
            rw [B.out]; exact hq
          · exact A.out j (by omega)
    · have hltz : ¬ (kk : Int) < (l0.length : Int) := by omega
      have : kk = l0.length := by omega
      subst this
      go_wp2
      go_ret
      refine ⟨?_, BW.out⟩
      rw [idxP_miss p l0 A.out]
      rfl
set_option maxHeartbeats 8000000 in
set_option maxRecDepth 100000 in
theorem containsFunc_int64 (g : Nat) (lb : Array Value) (eg : ∀ args w, (callFunc g args).run Try.prog w = .ok (.enter g args) w) (p : Int → Bool) (A0 : Option Addr) (c0 : Nat) (l0 : List Int) (w : World)
    (hr0 : Kd.C (Kd.int .i64) w A0 l0.length l0) (hp : PredOn .i64 g lb p l0 w) :
    Calls Try.prog 128 #[.slice A0 l0.length c0, .func (.func g) #[] lb] w fun e w' => e = .returned (.bool (l0.any p)) ∧ Below w.heap.size w w' := by
  rw [← idxP_any p l0]
  have HR0 := Aside0.mk hr0
  have HP := Aside0.mk hp
  clear hr0 hp
  go_enter Try.func128, Try.ntmps128
  go_wp2_with (go_at_call 85; refine (indexFunc_int64 g lb eg p A0 c0 l0 _ HR0.out HP.out).mono ?_; rintro e w' ⟨rfl, hb'⟩)
  go_ret
  exact ⟨rfl, hb'⟩
end
end Go.Proofs.Ytggjdcijplgpdaa.H
end
