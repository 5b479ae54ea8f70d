import Derived.Test.YtggjdcijplgpdaazFStocksECloneSt
import Derived.Shelf.Abstract
import Derived.Test.YtggjdcijplgpdaazFStocksEDayOf
section
namespace Go.Proofs.Ytggjdcijplgpdaa.H
open Go.RowKit Go.Proofs.YtggjdcijplgpdaaW.PrintWords Go.Proofs.YtggjdcijplgpdaaW.PrintLast Go.Proofs.YtggjdcijplgpdaaW.PrintMore
attribute [local go_sem] max2_int min2_int max_two min_two max_three min_three max_four min_four
set_option linter.unusedVariables false
set_option linter.unusedSimpArgs false
theorem idx8_0 (a0 a1 a2 a3 a4 a5 a6 a7 : Int) (w : World) : (Instr.index 53 (.agg #[.int .i16 a0, .int .i16 a1, .int .i16 a2, .int .i16 a3, .int .i16 a4, .int .i16 a5, .int .i16 a6, .int .i16 a7]) (.int .i64 0)).run Try.prog w = .ok (.int .i16 a0) w := by kernel_rfl
theorem idx8_1 (a0 a1 a2 a3 a4 a5 a6 a7 : Int) (w : World) : (Instr.index 53 (.agg #[.int .i16 a0, .int .i16 a1, .int .i16 a2, .int .i16 a3, .int .i16 a4, .int .i16 a5, .int .i16 a6, .int .i16 a7]) (.int .i64 1)).run Try.prog w = .ok (.int .i16 a1) w := by kernel_rfl
theorem idx8_2 (a0 a1 a2 a3 a4 a5 a6 a7 : Int) (w : World) : (Instr.index 53 (.agg #[.int .i16 a0, .int .i16 a1, .int .i16 a2, .int .i16 a3, .int .i16 a4, .int .i16 a5, .int .i16 a6, .int .i16 a7]) (.int .i64 2)).run Try.prog w = .ok (.int .i16 a2) w := by kernel_rfl
theorem idx8_3 (a0 a1 a2 a3 a4 a5 a6 a7 : Int) (w : World) : (Instr.index 53 (.agg #[.int .i16 a0, .int .i16 a1, .int .i16 a2, .int .i16 a3, .int .i16 a4, .int .i16 a5, .int .i16 a6, .int .i16 a7]) (.int .i64 3)).run Try.prog w = .ok (.int .i16 a3) w := by kernel_rfl
theorem idx8_4 (a0 a1 a2 a3 a4 a5 a6 a7 : Int) (w : World) : (Instr.index 53 (.agg #[.int .i16 a0, .int .i16 a1, .int .i16 a2, .int .i16 a3, .int .i16 a4, .int .i16 a5, .int .i16 a6, .int .i16 a7]) (.int .i64 4)).run Try.prog w = .ok (.int .i16 a4) w := by kernel_rfl
theorem idx8_5 (a0 a1 a2 a3 a4 a5 a6 a7 : Int) (w : World) : (Instr.index 53 (.agg #[.int .i16 a0, .int .i16 a1, .int .i16 a2, .int .i16 a3, .int .i16 a4, .int .i16 a5, .int .i16 a6, .int .i16 a7]) (.int .i64 5)).run Try.prog w = .ok (.int .i16 a5) w := by kernel_rfl
theorem idx8_6 (a0 a1 a2 a3 a4 a5 a6 a7 : Int) (w : World) : (Instr.index 53 (.agg #[.int .i16 a0, .int .i16 a1, .int .i16 a2, .int .i16 a3, .int .i16 a4, .int .i16 a5, .int .i16 a6, .int .i16 a7]) (.int .i64 6)).run Try.prog w = .ok (.int .i16 a6) w := by kernel_rfl
theorem idx8_7 (a0 a1 a2 a3 a4 a5 a6 a7 : Int) (w : World) : (Instr.index 53 (.agg #[.int .i16 a0, .int .i16 a1, .int .i16 a2, .int .i16 a3, .int .i16 a4, .int .i16 a5, .int .i16 a6, .int .i16 a7]) (.int .i64 7)).run Try.prog w = .ok (.int .i16 a7) w := by kernel_rfl
theorem infoSt : (Try.prog.info? 55).map (fun i => (i.zero, i.size, i.bytes)) = some (some (.agg #[(.int .i16 0), (.int .i16 0), (.int .i16 0), (.int .i16 0), (.int .i16 0), (.int .i16 0), (.int .i16 0), (.int .i16 0), (.int .i16 0), (.int .i16 0), (.int .i16 0), (.int .i16 0), (.int .i16 0), (.int .i16 0), (.int .i16 0), (.int .i16 0), (.int .i16 0), (.int .i16 0), (.int .i16 0), (.int .i16 0), (.int .i16 0), (.int .i16 0), (.int .i16 0), (.int .i16 0), (.int .i32 0)]), 25, 52) := by kernel_rfl
theorem info23 : (Try.prog.info? 23).map (fun i => (i.zero, i.size, i.bytes)) = some (some (.int .i16 0), 1, 2) := by kernel_rfl
theorem wrap16_id {z : Int} (h0 : -32768 ≤ z) (h1 : z < 32768) : IntKind.i16.wrap z = z := by
 simp [IntKind.wrap, IntKind.bits, IntKind.signed]
 split <;> omega
theorem wrap32_id {z : Int} (h0 : -2147483648 ≤ z) (h1 : z < 2147483648) : IntKind.i32.wrap z = z := by rw [IntKind.wrap_i32]; omega
theorem w64i {z : Int} (h0 : -9223372036854775808 ≤ z) (h1 : z < 9223372036854775808) : wrap64 z = z := by
 unfold wrap64
 omega
end Go.Proofs.Ytggjdcijplgpdaa.H
end
section
namespace Go.Proofs.Ytggjdcijplgpdaa.H
open Go.RowKit Go.Proofs.YtggjdcijplgpdaaW.PrintWords Go.Proofs.YtggjdcijplgpdaaW.PrintLast Go.Proofs.YtggjdcijplgpdaaW.PrintMore
attribute [local go_sem] max2_int min2_int max_two min_two max_three min_three max_four min_four
set_option linter.unusedVariables false
set_option linter.unusedSimpArgs false
theorem mem_load {P : Program} {a : Act} {o : Oper} {w : World} {x : Operand} {t : Nat} {ad : Addr} {cs : List Value} {d : TypeDesc} (ho : o.op = .load t x) (hx : a.eval x = .pointer (some ad)) (hc : ∀ j v, cs[j]? = some v → w.cell? (ad.add j) = some v)
 (hu : P.underlying t = some d) (hd : (match d with | .struct _ | .array _ _ => true | _ => false) = true) (hi : (P.info? t).map (·.size) = some cs.length) : (execOp a.eval o).run P w = .ok (.value (.agg cs.toArray)) w := by
 have hl := run_loadCells_list (P := P) w ad cs hc
 have hv : (loadVar t ad).run P w = .ok (.agg cs.toArray) w := by
  cases hq : P.info? t with
  | none => simp [hq] at hi
  | some i =>
   have hs : i.size = cs.length := by simpa [hq] using hi
   have hagg : (isAgg t).run P w = .ok true w := by
    unfold isAgg
    rw [Sem.run_bind, run_underlying hu w]
    cases d <;> simp_all
   simp [loadVar, Sem.run_bind, hagg, sizeOf, typeInfo, hq, hs, hl]
 unfold execOp
 simp only [ho, hx, Instr.loadAt, Instr.sureAddr, Sem.run_bind, Sem.run_pure, Result.andThen_ok, hv]
theorem mem_store {P : Program} {ops : Array Oper} {rest : List Oper} {o : Oper} {a : Act} {Q : Exit → Act → World → Prop} {W : World} (hgd : o.guard = none) (hN : o.dst = none) {t : TypeId} {p v : Operand} (ho : o.op = .store t p v) {g off : Nat} {cur : Array Value} {e : TypeId} {seg : List Value}
 (hp : a.eval p = .pointer (some ⟨g, off, none⟩)) (hv : a.eval v = .agg seg.toArray) (hh : W.heap[g]? = some (.cells cur e (0, 0))) (ht : (P.info? t).map (·.size) = some seg.length) (hfit : off + seg.length ≤ cur.size) (h1 : ∀ q ∈ seg, q.oneCell' = true)
 (h : ∀ W' cur', W'.heap[g]? = some (.cells cur' e (0, 0)) → cur'.toList = cur.toList.take off ++ seg ++ cur.toList.drop (off + seg.length) → W.grownBy W' (some g) → wpList P ops Q rest a W') : wpList P ops Q (o :: rest) a W := by
 obtain ⟨cur', h2, _, h4⟩ := setCells_row seg off W cur hh hfit
 obtain ⟨s1, s2, s3, s4⟩ := setCells_same g seg off W
 refine wpList_plain hgd fun K hK => ?_
 have hrun : (execOp a.eval o).run P W = .ok .skip (W.setCells g off seg) := by
  unfold execOp
  simp only [ho, hp, hv, Sem.run_bind, run_store_run t (.agg seg.toArray) seg hh (by simp [Value.cells]) ht hfit h1, Result.andThen_ok, Sem.run_pure]
 unfold Oper.wp
 rw [hrun]
 show K (a.put o.dst undef) _
 rw [hN]
 exact hK _ _ (h _ cur' h2 h4 ⟨s1, s2, s3, Nat.le_of_eq s4.symm, fun k _ hk => setCells_far seg off k (fun e => hk (by rw [e]))⟩)
theorem elem_cells {w : World} {ad : Addr} {n : Nat} {xs : List S55} (h : Kd.C k55 w (some ad) n xs) (i : Nat) (hi : i < n) : ∀ j v, (stC (rd_T55 xs (i : Int)))[j]? = some v → w.cell? ((ad.add (i * 25)).add j) = some v := by
 obtain ⟨ad', c, e, _, hK, hc⟩ := Kd.C_get h z55 (i : Int) (by omega) (by omega)
 cases e
 rw [Int.toNat_natCast] at hK hc
 have ec : c = stC (xs.getD i z55) := k55_cells hK
 intro j v hv
 rw [add_add]
 exact hc j v (by rw [ec]; exact hv)
theorem block_cells {w : World} {g t : Nat} {cs : List Value} (h : w.heap[g]? = some (.cells cs.toArray t (0, 0))) : ∀ j v, cs[j]? = some v → w.cell? ((⟨g, 0, none⟩ : Addr).add j) = some v := by
 intro j v hv
 rw [addr_plus, Nat.zero_add, blk_cell h, List.getElem?_toArray]
 exact hv
theorem stC_one (s : S55) : ∀ q ∈ stC s, q.oneCell' = true := by
 intro q hq
 obtain ⟨j, hj, rfl⟩ := List.getElem_of_mem hq
 have := stC_get s j hj
 rw [List.getElem?_eq_getElem hj] at this
 rw [Option.some.inj this]
 rfl
end Go.Proofs.Ytggjdcijplgpdaa.H
end
section
namespace Go.Proofs.Ytggjdcijplgpdaa.H
open Go.RowKit Go.Proofs.YtggjdcijplgpdaaW.PrintWords Go.Proofs.YtggjdcijplgpdaaW.PrintLast Go.Proofs.YtggjdcijplgpdaaW.PrintMore
attribute [local go_sem] max2_int min2_int max_two min_two max_three min_three max_four min_four
set_option linter.unusedVariables false
set_option linter.unusedSimpArgs false
def mix8 (a : List Int) (i : Nat) : Array Value := ((a.take i ++ List.replicate (8 - i) 0).map (fun x => Value.int .i16 x)).toArray
end Go.Proofs.Ytggjdcijplgpdaa.H
end
section
namespace Go.Proofs.Ytggjdcijplgpdaa.H
open Go.RowKit Go.Proofs.YtggjdcijplgpdaaW.PrintWords Go.Proofs.YtggjdcijplgpdaaW.PrintLast Go.Proofs.YtggjdcijplgpdaaW.PrintMore
attribute [local go_sem] max2_int min2_int max_two min_two max_three min_three max_four min_four
set_option linter.unusedVariables false
set_option linter.unusedSimpArgs false
theorem k55_stM (w : World) (base : Nat) (ok : Nat → Prop) (x : S55) : k55.M w base ok x (stC x) := k55_mkM w base ok x
end Go.Proofs.Ytggjdcijplgpdaa.H
end
section
namespace Go.Proofs.Ytggjdcijplgpdaa.H
open Go.RowKit Go.Proofs.YtggjdcijplgpdaaW.PrintWords Go.Proofs.YtggjdcijplgpdaaW.PrintLast Go.Proofs.YtggjdcijplgpdaaW.PrintMore
attribute [local go_sem] max2_int min2_int max_two min_two max_three min_three max_four min_four
set_option linter.unusedVariables false
set_option linter.unusedSimpArgs false
structure RowC (cap : Nat) (l : List S55) (cs : Array Value) : Prop where
 size : cs.size = cap * 25
 len : l.length ≤ cap
 max : cap ≤ maxLen
 at_ : ∀ k, k < l.length → ∀ j, j < 25 → cs[k * 25 + j]? = some (encSt j ((l.getD k z55).at_ j))
structure RowSt (W : World) (g cap : Nat) (l : List S55) : Prop where
 blk : ∃ cs, W.heap[g]? = some (.cells cs 55 (0, 0)) ∧ RowC cap l cs
theorem row_of_R {W : World} {base : Nat} {ok : Nat → Prop} {v : Value} {l : List S55} (h : Kd.R k55 55 W base ok v l) (hp : 0 < l.length) : ∃ g cap, v = .slice (some ⟨g, 0, none⟩) l.length cap ∧ base ≤ g ∧ ok g ∧ RowSt W g cap l := by
 obtain ⟨h1, inner, ho, hr⟩ := h
 rcases ho.2 with ⟨_, hn⟩ | ⟨g, cap, cur, hv, hb, hh, hnc, hcm, hcs, ht⟩
 · omega
 · subst hv
   refine ⟨g, cap, rfl, hb, h1 g (by simp [Value.ownBlock]), ⟨⟨cur, hh, hcs, hnc, hcm, fun k hk j hj => ?_⟩⟩⟩
   have hM := k55_openM (hr.2 k _ (List.getElem?_eq_getElem hk))
   have hz : k55.sz = 25 := rfl
   rw [hz] at hM ht
   have hS : (inner.drop (k * 25)).take 25 = stC l[k] := hM
   have hg : l.getD k z55 = l[k] := by rw [List.getD_eq_getElem?_getD, List.getElem?_eq_getElem hk]; rfl
   rw [hg, ← stC_get _ j hj, ← hS, List.getElem?_take_of_lt hj, List.getElem?_drop, ← ht, List.getElem?_take_of_lt (by omega), Array.getElem?_toList]
theorem R_of_row {W : World} {base : Nat} {ok : Nat → Prop} {g cap : Nat} {l : List S55} (h : RowSt W g cap l) (hb : base ≤ g) (hok : ok g) : Kd.R k55 55 W base ok (.slice (some ⟨g, 0, none⟩) l.length cap) l := by
 obtain ⟨cs, hh, hC⟩ := h.blk
 have hz : k55.sz = 25 := rfl
 have hl : l.length * 25 ≤ cs.size := by rw [hC.size]; exact Nat.mul_le_mul_right _ hC.len
 refine ⟨fun k hk => ?_, cs.toList.take (l.length * 25), ⟨?_, .inr ⟨g, cap, cs, rfl, hb, hh, hC.len, hC.max, by rw [hz]; exact hC.size, by rw [hz]⟩⟩, ?_, fun k s hs => ?_⟩
 · have : g = k := by simpa [Value.ownBlock] using hk
   exact this ▸ hok
 · rw [hz, List.length_take]; exact Nat.min_eq_left (by rw [Array.length_toList]; exact hl)
 · rw [hz, List.length_take]; exact Nat.min_eq_left (by rw [Array.length_toList]; exact hl)
 · obtain ⟨hk, rfl⟩ := List.getElem?_eq_some_iff.mp hs
   rw [hz]
   have hg : l.getD k z55 = l[k] := by rw [List.getD_eq_getElem?_getD, List.getElem?_eq_getElem hk]; rfl
   have hS : ((cs.toList.take (l.length * 25)).drop (k * 25)).take 25 = stC l[k] := by
    refine List.ext_getElem? fun j => ?_
    by_cases hj : j < 25
    · rw [List.getElem?_take_of_lt hj, List.getElem?_drop, List.getElem?_take_of_lt (by omega), Array.getElem?_toList, hC.at_ k hk j hj, stC_get _ j hj, hg]
    · rw [List.getElem?_take_eq_none (by omega), List.getElem?_eq_none (show (stC l[k]).length ≤ j by show 25 ≤ j; omega)]
   rw [hS]
   exact k55_stM _ _ _ _
theorem C_of_row {W : World} {g cap : Nat} {l : List S55} (h : RowSt W g cap l) : Kd.C k55 W (some ⟨g, 0, none⟩) l.length l := (Kd.R_reads' (R_of_row (ok := fun _ => True) h (Nat.zero_le _) trivial)).2.2
theorem elem_of_row {W : World} {g cap : Nat} {l : List S55} (h : RowSt W g cap l) {k : Nat} (hk : k < l.length) : ∃ cs, RowC cap l cs ∧ InSt W g (k * 25) 55 cs (l.getD k z55) W := by
 obtain ⟨cs, hh, hC⟩ := h.blk
 exact ⟨cs, hC, InSt.refl hh (hC.at_ k hk)⟩
theorem row_of_elem {W0 W : World} {g cap : Nat} {l : List S55} {cs : Array Value} {k : Nat} {s : S55} (hC : RowC cap l cs) (hk : k < l.length) (E : InSt W0 g (k * 25) 55 cs s W) : RowSt W g cap (l.set k s) := by
 obtain ⟨cs', hh, hs, ho, hi⟩ := E.blk
 refine ⟨⟨cs', hh, by rw [hs]; exact hC.size, by rw [List.length_set]; exact hC.len, hC.max, fun q hq j hj => ?_⟩⟩
 rw [List.length_set] at hq
 by_cases e : q = k
 · subst e
   rw [hi j hj, List.getD_eq_getElem?_getD, List.getElem?_set_self hk]
   rfl
 · rw [ho _ (by omega), hC.at_ q hq j hj, List.getD_eq_getElem?_getD, List.getD_eq_getElem?_getD, List.getElem?_set_ne (fun h => e h.symm)]
theorem RowSt.lt {W : World} {g cap : Nat} {l : List S55} (h : RowSt W g cap l) : g < W.heap.size := by
 obtain ⟨cs, hh, _⟩ := h.blk
 exact blk_lt hh
theorem RowSt.move {W W' : World} {g cap : Nat} {l : List S55} (h : RowSt W g cap l) (e : W'.heap[g]? = W.heap[g]?) : RowSt W' g cap l := by
 obtain ⟨cs, hh, hC⟩ := h.blk
 exact ⟨⟨cs, e.trans hh, hC⟩⟩
end Go.Proofs.Ytggjdcijplgpdaa.H
end
section
namespace Go.Proofs.Ytggjdcijplgpdaa.H
open Go.RowKit Go.Proofs.YtggjdcijplgpdaaW.PrintWords Go.Proofs.YtggjdcijplgpdaaW.PrintLast Go.Proofs.YtggjdcijplgpdaaW.PrintMore
attribute [local go_sem] max2_int min2_int max_two min_two max_three min_three max_four min_four
set_option linter.unusedVariables false
set_option linter.unusedSimpArgs false
structure InH (W0 : World) (g g2 cap : Nat) (l : List S55) (a1 a2 a3 : Int) (W : World) : Prop where
 hs : W.heap[g]? = some (.cells #[.slice (some ⟨g2, 0, none⟩) l.length cap, .int .i16 a1, .int .i8 a2, .int .i16 a3] 32 (0, 0))
 row : RowSt W g2 cap l
 os : W.os = W0.os
 tape : W.tape = W0.tape
 output : W.output = W0.output
 size : W0.heap.size ≤ W.heap.size
 block : ∀ b, b < W0.heap.size → b ≠ g → b ≠ g2 → W.heap[b]? = W0.heap[b]?
section
variable {W0 W W' : World} {g g2 cap : Nat} {l : List S55} {a1 a2 a3 : Int}
theorem InH.start (hs : W.heap[g]? = some (.cells #[.slice (some ⟨g2, 0, none⟩) l.length cap, .int .i16 a1, .int .i8 a2, .int .i16 a3] 32 (0, 0))) (row : RowSt W g2 cap l) : InH W g g2 cap l a1 a2 a3 W := ⟨hs, row, rfl, rfl, rfl, Nat.le_refl _, fun _ _ _ _ => rfl⟩
theorem InH.ne (h : InH W0 g g2 cap l a1 a2 a3 W) : g ≠ g2 := by
 obtain ⟨cs, hh, _⟩ := h.row.blk
 exact blk_ne h.hs hh (by decide)
theorem InH.lt (h : InH W0 g g2 cap l a1 a2 a3 W) : g < W.heap.size := blk_lt h.hs
theorem InH.step (h : InH W0 g g2 cap l a1 a2 a3 W) (hb : Below W.heap.size W W') : InH W0 g g2 cap l a1 a2 a3 W' :=
 ⟨blk_below h.hs hb, h.row.move (hb.block _ h.row.lt), hb.os.trans h.os, hb.tape.trans h.tape, hb.output.trans h.output, Nat.le_trans h.size hb.size, fun b h1 h2 h3 => (hb.block b (Nat.lt_of_lt_of_le h1 h.size)).trans (h.block b h1 h2 h3)⟩
theorem InH.trans {W1 : World} (h1 : InH W0 g g2 cap l a1 a2 a3 W1) {l' : List S55} {b1 b2 b3 : Int} (h : InH W1 g g2 cap l' b1 b2 b3 W) : InH W0 g g2 cap l' b1 b2 b3 W :=
 ⟨h.hs, h.row, h.os.trans h1.os, h.tape.trans h1.tape, h.output.trans h1.output, Nat.le_trans h1.size h.size, fun b x y z => (h.block b (Nat.lt_of_lt_of_le x h1.size) y z).trans (h1.block b x y z)⟩
theorem InH.cell (h : InH W0 g g2 cap l a1 a2 a3 W) (i : Nat) : W.cell? ⟨g, i, none⟩ = (#[.slice (some ⟨g2, 0, none⟩) l.length cap, .int .i16 a1, .int .i8 a2, .int .i16 a3] : Array Value)[i]? := blk_cell h.hs i
theorem InH.free (h : InH W0 g g2 cap l a1 a2 a3 W) (i : Nat) : W.frozen? ⟨g, i, none⟩ = false := blk_frozen h.hs i
theorem InH.put_elem (h : InH W0 g g2 cap l a1 a2 a3 W) {cs : Array Value} {k : Nat} {s : S55} (hC : RowC cap l cs) (hk : k < l.length) (E : InSt W g2 (k * 25) 55 cs s W') : InH W0 g g2 cap (l.set k s) a1 a2 a3 W' :=
 ⟨by rw [List.length_set]; exact (E.gr.block g h.lt (fun e => h.ne (Option.some.inj e))).trans h.hs, row_of_elem hC hk E, E.gr.os.trans h.os, E.gr.tape.trans h.tape, E.gr.output.trans h.output, Nat.le_trans h.size E.gr.size,
  fun b x y z => (E.gr.block b (Nat.lt_of_lt_of_le x h.size) (fun e => z (Option.some.inj e))).trans (h.block b x y z)⟩
theorem InH.today (h : InH W0 g g2 cap l a1 a2 a3 W) (v : Int) : InH W0 g g2 cap l a1 a2 v (W.setCell ⟨g, 3, none⟩ (.int .i16 v)) :=
 ⟨by simpa using blk_set h.hs 3 (.int .i16 v), h.row.move (Below.heap_setCell W ⟨g, 3, none⟩ _ g2 (fun e => h.ne e.symm)), h.os, h.tape, h.output, Nat.le_trans h.size (by simp),
  fun b x y z => (Below.heap_setCell W ⟨g, 3, none⟩ _ b y).trans (h.block b x y z)⟩
theorem InH.below {w0 : World} (h : InH W0 g g2 cap l a1 a2 a3 W) (hb : Below w0.heap.size w0 W0) (h1 : w0.heap.size ≤ g) (h2 : w0.heap.size ≤ g2) : Below w0.heap.size w0 W :=
 hb.trans ⟨h.os, h.tape, h.output, h.size, fun k hk => h.block k (Nat.lt_of_lt_of_le hk hb.size) (by omega) (by omega)⟩
theorem InH.grown (h : InH W0 g g2 cap l a1 a2 a3 W) {row : Option Nat} (hg : W.grownBy W' row) (n1 : some g ≠ row) (n2 : some g2 ≠ row) (hr : ∀ k, row = some k → W0.heap.size ≤ k) : InH W0 g g2 cap l a1 a2 a3 W' :=
 ⟨(hg.block g h.lt n1).trans h.hs, h.row.move (hg.block g2 h.row.lt n2), hg.os.trans h.os, hg.tape.trans h.tape, hg.output.trans h.output, Nat.le_trans h.size hg.size,
  fun b x y z => (hg.block b (Nat.lt_of_lt_of_le x h.size) (fun e => by have := hr b e.symm; omega)).trans (h.block b x y z)⟩
theorem InH.row_ne (h : InH W0 g g2 cap l a1 a2 a3 W) {base : Nat} {ok : Nat → Prop} {v : Value} {xs : List Int} (hr : Kd.R (Kd.int .i64) 2 W base ok v xs) : some g ≠ v.ownBlock ∧ some g2 ≠ v.ownBlock := by
 obtain ⟨cs, hh, _⟩ := h.row.blk
 exact ⟨Kd.R_ne hr h.hs (by decide), Kd.R_ne hr hh (by decide)⟩
theorem InH.keeps (h : InH W g g2 cap l a1 a2 a3 W) {l' : List S55} {b1 b2 b3 : Int} (h' : InH W g g2 cap l' b1 b2 b3 W') {base : Nat} {ok : Nat → Prop} {v : Value} {xs : List Int} (hr : Kd.R (Kd.int .i64) 2 W base ok v xs) : Kd.R (Kd.int .i64) 2 W' base ok v xs := by
 obtain ⟨cs, hh, _⟩ := h.row.blk
 have n1 := Kd.R_ne hr h.hs (by decide)
 have n2 := Kd.R_ne hr hh (by decide)
 exact Kd.R_mono (Kd.R_move (Kd.R_tight2 rfl (Kd.R_bound hr)) (fun k hk => h'.block k hk.2.2.2.1 (fun e => n1 (by rw [← e]; exact hk.1)) (fun e => n2 (by rw [← e]; exact hk.1)))) (fun k hk => hk.2.1)
end
end Go.Proofs.Ytggjdcijplgpdaa.H
end
