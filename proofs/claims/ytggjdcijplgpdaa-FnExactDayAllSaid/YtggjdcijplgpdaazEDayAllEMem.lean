import Derived.Test.YtggjdcijplgpdaazEDayAllEIdx8
import Derived.Shelf.Abstract
section
namespace Go.Proofs.Ytggjdcijplgpdaa.H
open Go.RowKit Go.Proofs.YtggjdcijplgpdaaW.PrintWords Go.Proofs.YtggjdcijplgpdaaW.PrintLast Go.Proofs.YtggjdcijplgpdaaW.PrintMore
attribute [local go_sem] max2_int min2_int max_two min_two max_three min_three max_four min_four
set_option linter.unusedVariables false
set_option linter.unusedSimpArgs false
def S55.l (s : S55) : List Int := [s.f0.f0, s.f0.f1, s.f0.f2, s.f0.f3, s.f0.f4, s.f0.f5, s.f0.f6, s.f0.f7, s.f1.f0, s.f1.f1, s.f1.f2, s.f1.f3, s.f1.f4, s.f1.f5, s.f1.f6, s.f1.f7, s.f2.f0, s.f2.f1, s.f2.f2, s.f2.f3, s.f2.f4, s.f2.f5, s.f2.f6, s.f2.f7, s.f3]
def S55.of (L : List Int) : S55 := ⟨⟨L.getD 0 0, L.getD 1 0, L.getD 2 0, L.getD 3 0, L.getD 4 0, L.getD 5 0, L.getD 6 0, L.getD 7 0⟩, ⟨L.getD 8 0, L.getD 9 0, L.getD 10 0, L.getD 11 0, L.getD 12 0, L.getD 13 0, L.getD 14 0, L.getD 15 0⟩, ⟨L.getD 16 0, L.getD 17 0, L.getD 18 0, L.getD 19 0, L.getD 20 0, L.getD 21 0, L.getD 22 0, L.getD 23 0⟩, L.getD 24 0⟩
theorem S55.len (s : S55) : s.l.length = 25 := rfl
theorem S55.l_of : ∀ (L : List Int), L.length = 25 → (S55.of L).l = L
  | [a0, a1, a2, a3, a4, a5, a6, a7, a8, a9, a10, a11, a12, a13, a14, a15, a16, a17, a18, a19, a20, a21, a22, a23, a24], _ => rfl
theorem S55.of_l (s : S55) : S55.of s.l = s := rfl
theorem S55.ext_l {s t : S55} (h : s.l = t.l) : s = t := by rw [← S55.of_l s, ← S55.of_l t, h]
def S55.at_ (s : S55) (j : Nat) : Int := s.l.getD j 0
def S55.put (s : S55) (j : Nat) (v : Int) : S55 := S55.of (s.l.set j v)
theorem S55.put_l (s : S55) (j : Nat) (v : Int) : (s.put j v).l = s.l.set j v := S55.l_of _ (by rw [List.length_set]; rfl)
theorem S55.put_at (s : S55) (j : Nat) (v : Int) (q : Nat) (h : j < 25) : (s.put j v).at_ q = if q = j then v else s.at_ q := by
  unfold S55.at_
  rw [S55.put_l, List.getD_eq_getElem?_getD, List.getElem?_set, List.getD_eq_getElem?_getD]
  by_cases e : j = q
  · subst e
    rw [if_pos rfl, if_pos rfl, if_pos (show j < s.l.length from h)]
    rfl
  · rw [if_neg e, if_neg (fun h => e h.symm)]
def encSt (j : Nat) (v : Int) : Value := .int (if j < 24 then .i16 else .i32) v
def stC (s : S55) : List Value := [.int .i16 s.f0.f0, .int .i16 s.f0.f1, .int .i16 s.f0.f2, .int .i16 s.f0.f3, .int .i16 s.f0.f4, .int .i16 s.f0.f5, .int .i16 s.f0.f6, .int .i16 s.f0.f7, .int .i16 s.f1.f0, .int .i16 s.f1.f1, .int .i16 s.f1.f2, .int .i16 s.f1.f3, .int .i16 s.f1.f4, .int .i16 s.f1.f5, .int .i16 s.f1.f6, .int .i16 s.f1.f7, .int .i16 s.f2.f0, .int .i16 s.f2.f1, .int .i16 s.f2.f2, .int .i16 s.f2.f3, .int .i16 s.f2.f4, .int .i16 s.f2.f5, .int .i16 s.f2.f6, .int .i16 s.f2.f7, .int .i32 s.f3]
theorem stC_get (s : S55) : ∀ j, j < 25 → (stC s)[j]? = some (encSt j (s.at_ j))
  | 0, _ => rfl
  | 1, _ => rfl
  | 2, _ => rfl
  | 3, _ => rfl
  | 4, _ => rfl
  | 5, _ => rfl
  | 6, _ => rfl
  | 7, _ => rfl
  | 8, _ => rfl
  | 9, _ => rfl
  | 10, _ => rfl
  | 11, _ => rfl
  | 12, _ => rfl
  | 13, _ => rfl
  | 14, _ => rfl
  | 15, _ => rfl
  | 16, _ => rfl
  | 17, _ => rfl
  | 18, _ => rfl
  | 19, _ => rfl
  | 20, _ => rfl
  | 21, _ => rfl
  | 22, _ => rfl
  | 23, _ => rfl
  | 24, _ => rfl
  | j + 25, h => absurd h (by omega)
theorem k55_cells {w : World} {x : S55} {cs : List Value} (h : k55.K w x cs) : cs = stC x := k55_open h
theorem addr_plus (g o j : Nat) : (⟨g, o, none⟩ : Addr).add j = ⟨g, o + j, none⟩ := by unfold Addr.add; split <;> simp_all
structure InSt (W0 : World) (g o t : Nat) (cs0 : Array Value) (s : S55) (W : World) : Prop where
  blk : ∃ cs, W.heap[g]? = some (.cells cs t (0, 0)) ∧ cs.size = cs0.size ∧ (∀ q, q < o ∨ o + 25 ≤ q → cs[q]? = cs0[q]?) ∧ ∀ j, j < 25 → cs[o + j]? = some (encSt j (s.at_ j))
  gr : W0.grownBy W (some g)
section
variable {W0 W : World} {g o t : Nat} {cs0 : Array Value} {s : S55}
theorem InSt.cell (h : InSt W0 g o t cs0 s W) (j : Nat) (hj : j < 25) : W.cell? ⟨g, o + j, none⟩ = some (encSt j (s.at_ j)) := by
  obtain ⟨cs, hb, _, _, hc⟩ := h.blk
  exact (blk_cell hb _).trans (hc j hj)
theorem InSt.free (h : InSt W0 g o t cs0 s W) (i : Nat) : W.frozen? ⟨g, i, none⟩ = false := by
  obtain ⟨cs, hb, _⟩ := h.blk
  exact blk_frozen hb _
theorem InSt.lt (h : InSt W0 g o t cs0 s W) : g < W.heap.size := by
  obtain ⟨cs, hb, _⟩ := h.blk
  exact blk_lt hb
theorem InSt.drew (h : InSt W0 g o t cs0 s W) : InSt W0 g o t cs0 s W.drew := ⟨h.blk, ⟨h.gr.os, h.gr.tape, h.gr.output, h.gr.size, h.gr.block⟩⟩
theorem InSt.drawn (h : InSt W0 g o t cs0 s W) {W' : World} (hd : Drawn0 W W') : InSt W0 g o t cs0 s W' := by
  obtain ⟨n, rfl⟩ := hd.out
  exact ⟨h.blk, ⟨h.gr.os, h.gr.tape, h.gr.output, h.gr.size, h.gr.block⟩⟩
theorem InSt.put (h : InSt W0 g o t cs0 s W) (j : Nat) (hj : j < 25) (v : Int) : InSt W0 g o t cs0 (s.put j v) (W.setCell ⟨g, o + j, none⟩ (encSt j v)) := by
  obtain ⟨cs, hb, hs, ho, hc⟩ := h.blk
  have hin : o + j < cs.size := (Array.getElem?_eq_some_iff.mp (hc j hj)).1
  refine ⟨⟨_, blk_set hb (o + j) (encSt j v), by rw [Array.size_setIfInBounds]; exact hs, fun q hq => ?_, fun q hq => ?_⟩, ⟨?_, ?_, ?_, ?_, ?_⟩⟩
  · rw [Array.getElem?_setIfInBounds_ne (by omega)]
    exact ho q hq
  · rw [S55.put_at s j v q hj]
    by_cases e : q = j
    · subst e
      rw [if_pos rfl, Array.getElem?_setIfInBounds_self_of_lt hin]
    · rw [if_neg e, Array.getElem?_setIfInBounds_ne (by omega)]
      exact hc q hq
  · exact h.gr.os
  · exact h.gr.tape
  · exact h.gr.output
  · exact Nat.le_trans h.gr.size (by simp)
  · intro i hi hne
    exact (Below.heap_setCell W ⟨g, o + j, none⟩ _ i (fun e => hne (by rw [e]))).trans (h.gr.block i hi hne)
theorem InSt.refl {cs : Array Value} (hb : W.heap[g]? = some (.cells cs t (0, 0))) (hc : ∀ j, j < 25 → cs[o + j]? = some (encSt j (s.at_ j))) : InSt W g o t cs s W :=
  ⟨⟨cs, hb, rfl, fun _ _ => rfl, hc⟩, ⟨rfl, rfl, rfl, Nat.le_refl _, fun _ _ _ => rfl⟩⟩
end
end Go.Proofs.Ytggjdcijplgpdaa.H
end
section
namespace Go.Proofs.Ytggjdcijplgpdaa.H
open Go.RowKit Go.Proofs.YtggjdcijplgpdaaW.PrintWords Go.Proofs.YtggjdcijplgpdaaW.PrintLast Go.Proofs.YtggjdcijplgpdaaW.PrintMore
attribute [local go_sem] max2_int min2_int max_two min_two max_three min_three max_four min_four
set_option linter.unusedVariables false
set_option linter.unusedSimpArgs false
theorem mem_load {P : Program} {a : Act} {o : Oper} {w : World} {x : Operand} {t : Nat} {ad : Addr} {cs : List Value} {d : TypeDesc} (ho : o.op = .load t x) (hx : a.eval x = .pointer (some ad)) (hc : ∀ j v, cs[j]? = some v → w.cell? (ad.add j) = some v)
    (hu : P.underlying t = some d) (hd : (match d with | .struct _ | .array _ _ => true | _ => false) = true) (hi : (P.info? t).map (·.size) = some cs.length) : (execOp a.eval o).run P w = .ok (.value (.agg cs.toArray)) w := by
  have hl := run_loadCells_list (P := P) w ad cs hc
  have hv : (loadVar t ad).run P w = .ok (.agg cs.toArray) w := by
    cases hq : P.info? t with
    | none => simp [hq] at hi
    | some i =>
      have hs : i.size = cs.length := by simpa [hq] using hi
      have hagg : (isAgg t).run P w = .ok true w := by
        unfold isAgg
        rw [Sem.run_bind, run_underlying hu w]
        cases d <;> simp_all
      simp [loadVar, Sem.run_bind, hagg, sizeOf, typeInfo, hq, hs, hl]
  unfold execOp
  simp only [ho, hx, Instr.loadAt, Instr.sureAddr, Sem.run_bind, Sem.run_pure, Result.andThen_ok, hv]
theorem mem_store {P : Program} {ops : Array Oper} {rest : List Oper} {o : Oper} {a : Act} {Q : Exit → Act → World → Prop} {W : World} (hgd : o.guard = none) (hN : o.dst = none) {t : TypeId} {p v : Operand} (ho : o.op = .store t p v) {g off : Nat} {cur : Array Value} {e : TypeId} {seg : List Value}
    (hp : a.eval p = .pointer (some ⟨g, off, none⟩)) (hv : a.eval v = .agg seg.toArray) (hh : W.heap[g]? = some (.cells cur e (0, 0))) (ht : (P.info? t).map (·.size) = some seg.length) (hfit : off + seg.length ≤ cur.size) (h1 : ∀ q ∈ seg, q.oneCell' = true)
    (h : ∀ W' cur', W'.heap[g]? = some (.cells cur' e (0, 0)) → cur'.toList = cur.toList.take off ++ seg ++ cur.toList.drop (off + seg.length) → W.grownBy W' (some g) → wpList P ops Q rest a W') : wpList P ops Q (o :: rest) a W := by
  obtain ⟨cur', h2, _, h4⟩ := setCells_row seg off W cur hh hfit
  obtain ⟨s1, s2, s3, s4⟩ := setCells_same g seg off W
  refine wpList_plain hgd fun K hK => ?_
  have hrun : (execOp a.eval o).run P W = .ok .skip (W.setCells g off seg) := by
    unfold execOp
    simp only [ho, hp, hv, Sem.run_bind, run_store_run t (.agg seg.toArray) seg hh (by simp [Value.cells]) ht hfit h1, Result.andThen_ok, Sem.run_pure]
  unfold Oper.wp
  rw [hrun]
  show K (a.put o.dst undef) _
  rw [hN]
  exact hK _ _ (h _ cur' h2 h4 ⟨s1, s2, s3, Nat.le_of_eq s4.symm, fun k _ hk => setCells_far seg off k (fun e => hk (by rw [e]))⟩)
theorem elem_cells {w : World} {ad : Addr} {n : Nat} {xs : List S55} (h : Kd.C k55 w (some ad) n xs) (i : Nat) (hi : i < n) : ∀ j v, (stC (rd_T55 xs (i : Int)))[j]? = some v → w.cell? ((ad.add (i * 25)).add j) = some v := by
  obtain ⟨ad', c, e, _, hK, hc⟩ := Kd.C_get h z55 (i : Int) (by omega) (by omega)
  cases e
  rw [Int.toNat_natCast] at hK hc
  have ec : c = stC (xs.getD i z55) := k55_cells hK
  intro j v hv
  rw [add_add]
  exact hc j v (by rw [ec]; exact hv)
theorem block_cells {w : World} {g t : Nat} {cs : List Value} (h : w.heap[g]? = some (.cells cs.toArray t (0, 0))) : ∀ j v, cs[j]? = some v → w.cell? ((⟨g, 0, none⟩ : Addr).add j) = some v := by
  intro j v hv
  rw [addr_plus, Nat.zero_add, blk_cell h, List.getElem?_toArray]
  exact hv
theorem part_cells {w : World} {g t o : Nat} {ds : Array Value} {cs : List Value} (h : w.heap[g]? = some (.cells ds t (0, 0))) (hc : ∀ j v, cs[j]? = some v → ds[o + j]? = some v) : ∀ j v, cs[j]? = some v → w.cell? ((⟨g, o, none⟩ : Addr).add j) = some v := by
  intro j v hv
  rw [addr_plus, blk_cell h]
  exact hc j v hv
theorem stC_one (s : S55) : ∀ q ∈ stC s, q.oneCell' = true := by
  intro q hq
  obtain ⟨j, hj, rfl⟩ := List.getElem_of_mem hq
  have := stC_get s j hj
  rw [List.getElem?_eq_getElem hj] at this
  rw [Option.some.inj this]
  rfl
end Go.Proofs.Ytggjdcijplgpdaa.H
end
