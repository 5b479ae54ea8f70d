import Derived.Test.YtggjdcijplgpdaazEAllDryAtD0
namespace Go.Proofs.Ytggjdcijplgpdaa.D
open Go.RowKit Go.Proofs.YtggjdcijplgpdaaW.PrintWords Go.Proofs.YtggjdcijplgpdaaW.PrintLast Go.Proofs.YtggjdcijplgpdaaW.PrintMore
attribute [local go_sem] max2_int min2_int max_two min_two max_three min_three max_four min_four
set_option linter.unusedVariables false
set_option linter.unusedSimpArgs false
def hourC (t : S74) : List Value := [.int .i8 t.f0, .int .i8 t.f1, .int .i8 t.f2]
def dayA (l : List S74) : Array Value := (l.flatMap hourC).toArray
theorem flat_len : ∀ l : List S74, (l.flatMap hourC).length = l.length * 3
  | [] => rfl
  | x :: l => by rw [List.flatMap_cons, List.length_append, flat_len l]; show 3 + l.length * 3 = (l.length + 1) * 3; omega
theorem flat_get : ∀ (l : List S74) (j : Nat) (p : S74), l[j]? = some p → ∀ i, i < 3 → (l.flatMap hourC)[j * 3 + i]? = (hourC p)[i]?
  | [], j, p, h, _, _ => by simp at h
  | x :: l, 0, p, h, i, hi => by
    obtain rfl : x = p := by simpa using h
    rw [List.flatMap_cons, Nat.zero_mul, Nat.zero_add, List.getElem?_append_left hi]
  | x :: l, j + 1, p, h, i, hi => by
    have h' : l[j]? = some p := by simpa using h
    rw [List.flatMap_cons, List.getElem?_append_right (by show 3 ≤ _; omega)]
    rw [show (j + 1) * 3 + i - (hourC x).length = j * 3 + i by show (j + 1) * 3 + i - 3 = _; omega]
    exact flat_get l j p h' i hi
theorem dayA_size (l : List S74) : (dayA l).size = l.length * 3 := by
  unfold dayA
  rw [List.size_toArray, flat_len]
theorem dayA_get (l : List S74) (j : Nat) (p : S74) (h : l[j]? = some p) (i : Nat) (hi : i < 3) : (dayA l)[j * 3 + i]? = (hourC p)[i]? := by
  unfold dayA
  rw [List.getElem?_toArray]
  exact flat_get l j p h i hi
theorem addr_add (b k : Nat) : (⟨b, 0, none⟩ : Addr).add k = ⟨b, k, none⟩ := by unfold Addr.add; split <;> simp_all
theorem day_C {W : World} {b t : Nat} {l : List S74} (h : W.heap[b]? = some (.cells (dayA l) t (0, 0))) (hl : l.length = 24) : Kd.C k74 W (some ⟨b, 0, none⟩) l.length l := by
  refine ⟨rfl, by omega, fun _ => ⟨_, rfl, fun j p hj => ⟨hourC p, rfl, k74_mk W p, fun i u hu => ?_⟩⟩⟩
  have hi : i < 3 := (List.getElem?_eq_some_iff.mp hu).1
  have e := dayA_get l j p hj i hi
  rw [hu] at e
  show W.cell? ((⟨b, 0, none⟩ : Addr).add (j * 3 + i)) = some u
  rw [addr_add, blk_cell h]
  exact e
theorem at_day {w : World} {AD : Addr} {n : Nat} {xs : List S74} (h : Kd.C k74 w (some AD) n xs) (i : Int) (h0 : 0 ≤ i) (h1 : i < n) : w.cell? (AD.add (i.toNat * 3)) = some (.int .i8 (rd_T74 xs i).f0) ∧ w.cell? ⟨(AD.add (i.toNat * 3)).block, (AD.add (i.toNat * 3)).off + 1, none⟩ = some (.int .i8 (rd_T74 xs i).f1) ∧ w.cell? ⟨(AD.add (i.toNat * 3)).block, (AD.add (i.toNat * 3)).off + 2, none⟩ = some (.int .i8 (rd_T74 xs i).f2) := by
  obtain ⟨ad, e, a, b, c⟩ := at_T74 h i h0 h1
  cases e
  exact ⟨a, b, c⟩
theorem day_still {W1 W : World} {g t : Nat} {cs : Array Value} (h : W1.heap[g]? = some (.cells cs t (0, 0))) (hb : Below W1.heap.size W1 W) : W.heap[g]? = some (.cells cs t (0, 0)) := (hb.block g (blk_lt h)).trans h
theorem day_info {l : List S74} (hl : l.length = 24) : (Try.prog.info? 76).map (·.size) = some (dayA l).size := by
  rw [dayA_size, hl]
  kernel_rfl
theorem day_load {a : Act} {o : Oper} {w : World} {x : Operand} {t g n e : Nat} {cs : Array Value} (ho : o.op = .load t x) (hx : a.eval x = .pointer (some ⟨g, 0, none⟩)) (hg : w.heap[g]? = some (.cells cs t (0, 0)))
    (hu : Try.prog.underlying t = some (.array n e)) (hi : (Try.prog.info? t).map (·.size) = some cs.size) : (execOp a.eval o).run Try.prog w = .ok (.value (.agg cs)) w := by
  unfold execOp
  simp only [ho, hx, Instr.loadAt, Instr.sureAddr, Sem.run_bind, Sem.run_pure, Result.andThen_ok, run_loadVar_row w g t t cs (0, 0) (.array n e) hg hu rfl hi]
theorem low_b {w W1 w' : World} (h : Below w.heap.size w W1) {p : Prop} (q : p ∧ Below W1.heap.size W1 w') : p ∧ Below w.heap.size w w' := ⟨q.1, h.trans (q.2.mono h.size)⟩
theorem low_r {α : Type} {d : Kd α} {t : Nat} {ok : Nat → Prop} {w W1 w' : World} (h : Below w.heap.size w W1) {p : Value → Prop} {l : List α} (q : ∃ v, p v ∧ d.R t w' W1.heap.size ok v l ∧ Below W1.heap.size W1 w') : ∃ v, p v ∧ d.R t w' w.heap.size ok v l ∧ Below w.heap.size w w' := by
  obtain ⟨v, h1, h2, h3⟩ := q
  exact ⟨v, h1, Kd.R_lower h2 h.size, h.trans (h3.mono h.size)⟩
end Go.Proofs.Ytggjdcijplgpdaa.D
