import Derived.Test.YthkccaclmodjiaazETwoIronsELayC
import Derived.Test.YthkccaclmodjiaazETwoIronsI0
import Derived.Shelf.Abstract
import Derived.RangeFuncBox
import Derived.Shelf.SlicesE.Clone
namespace Go.Proofs.Ythkccaclmodjiaa.I
open Go.RowKit Go.Proofs.YthkccaclmodjiaaW.PrintWords Go.Proofs.YthkccaclmodjiaaW.PrintLast Go.Proofs.YthkccaclmodjiaaW.PrintMore
attribute [local go_sem] max2_int min2_int max_two min_two max_three min_three max_four min_four
set_option linter.unusedVariables false
set_option linter.unusedSimpArgs false
open Go.Sort Go.Shelf Go.Lib
theorem cloneOf (v : Value) (l : List Int) (base : Nat) (ok : Nat → Prop) (W : World) (h : Kd.R (Kd.int .i64) 2 W base ok v l) (hl : l.length ≤ 1048576) :
    Calls Try.prog 123 #[v] W fun e w' => ∃ v', e = .returned v' ∧ Kd.R (Kd.int .i64) 2 w' W.heap.size (fun _ => True) v' l ∧ Below W.heap.size W w' := by
  have hown := R_own_ints h
  obtain ⟨i0, hi, hz0, hz1, hz2⟩ := info_parts info2
  rcases hown.2 with ⟨rfl, hz⟩ | ⟨gb, cap, cur, rfl, hbase, hgb, r1, r2, r3, r4⟩
  · have hss : l = [] := List.eq_nil_of_length_eq_zero hz
    subst hss
    refine (AnyE.slices_Clone_nil Try.cloneA 0 0 W).mono ?_
    rintro e w' ⟨rfl, rfl⟩
    exact ⟨_, rfl, Kd.R_nil _ _ _ _ _, Below.refl _ _⟩
  · have hml : maxLen = 9223372036854775807 := rfl
    refine (AnyE.slices_Clone Try.cloneA i0 (.int .i64 0) 1 8 hi hz0 hz1 hz2 rfl (by decide) Try.sizeOf2 gb 0 l.length cap (l.map (Value.int .i64)) W (by simp) (by omega) (by omega) ?_ ?_).mono ?_
    · intro j u hu
      have hlt : j < l.length := by
        have := (List.getElem?_eq_some_iff.mp hu).1
        simpa using this
      have e : (cur.toList.take (l.length * 1))[j]? = some u := by rw [r4]; exact hu
      rw [Nat.mul_one, List.getElem?_take_of_lt hlt, Array.getElem?_toList] at e
      rw [Nat.zero_add]
      simp [World.cell?, hgb, e]
    · intro u hu
      obtain ⟨x, _, rfl⟩ := List.mem_map.mp hu
      rfl
    · rintro e w' ⟨v', rfl, hr, _, hb⟩
      exact ⟨v', rfl, own_R rfl hr, hb⟩
def cbOf (h0 : Nat) : Array Value := #[.pointer (some ⟨h0, 0, none⟩), .pointer (some ⟨h0 + 1, 0, none⟩), .pointer (some ⟨h0 + 3, 0, none⟩), .pointer (some ⟨h0 + 2, 0, none⟩), .pointer (some ⟨h0 + 4, 0, none⟩)]
structure Env (h0 n sg : Nat) (slb : Array Value) (W : World) (bv : Value) (best : List Int) (low : Int) : Prop where
  bn : Boxed W h0 3 (.int .i64 (n : Int))
  bs : Boxed W (h0 + 1) 74 (.func (.func sg) #[] slb)
  bb : Boxed W (h0 + 2) 37 bv
  bl : Boxed W (h0 + 3) 2 (.int .i64 low)
  bc : Boxed W (h0 + 4) 100 (.func (.func 122) #[] (cbOf h0))
  rb : Kd.R (Kd.int .i64) 2 W (h0 + 5) (fun _ => True) bv best
theorem boxed_below {W w' : World} {B t : Nat} {v : Value} (h : Boxed W B t v) (hb : Below W.heap.size W w') : Boxed w' B t v := (hb.block B h.lt).trans h
theorem Env.below {h0 n sg : Nat} {slb : Array Value} {W w' : World} {bv : Value} {best : List Int} {low : Int} (E : Env h0 n sg slb W bv best low) (hb : Below W.heap.size W w') : Env h0 n sg slb w' bv best low :=
  ⟨boxed_below E.bn hb, boxed_below E.bs hb, boxed_below E.bb hb, boxed_below E.bl hb, boxed_below E.bc hb, Kd.R_below E.rb hb⟩
theorem boxed_far {W : World} {B B' t : Nat} {v u : Value} (h : Boxed W B t v) (hne : B ≠ B') : Boxed (W.setCell ⟨B', 0, none⟩ u) B t v := h.kept (grownBy_setCell' W B' u) (by simpa using hne)
theorem R_from {W : World} {m B : Nat} {v u : Value} {l : List Int} (h : Kd.R (Kd.int .i64) 2 W m (fun _ => True) v l) (hB : B < m) : Kd.R (Kd.int .i64) 2 (W.setCell ⟨B, 0, none⟩ u) m (fun _ => True) v l := by
  have := Kd.R_far (p := ⟨B, 0, none⟩) (Kd.R_bound h) (fun k hk => by have := hk.2.1; show k ≠ B; omega) u
  exact Kd.R_mono this (fun _ _ => trivial)
theorem Env.store {h0 n sg : Nat} {slb : Array Value} {W : World} {bv : Value} {best : List Int} {low : Int} (E : Env h0 n sg slb W bv best low) {v : Value} {l : List Int} (hv : Kd.R (Kd.int .i64) 2 W (h0 + 5) (fun _ => True) v l) (k : Int) :
    Env h0 n sg slb ((W.setCell ⟨h0 + 2, 0, none⟩ v).setCell ⟨h0 + 3, 0, none⟩ (.int .i64 k)) v l k :=
  ⟨boxed_far (boxed_far E.bn (by omega)) (by omega), boxed_far (boxed_far E.bs (by omega)) (by omega), boxed_far (E.bb.set v) (by omega), (boxed_far E.bl (by omega)).set _, boxed_far (boxed_far E.bc (by omega)) (by omega), R_from (R_from hv (by omega)) (by omega)⟩
structure Mid (m : Nat) (W w' : World) : Prop where
  size : W.heap.size ≤ w'.heap.size
  block : ∀ k, m ≤ k → k < W.heap.size → w'.heap[k]? = W.heap[k]?
theorem Mid.refl (m : Nat) (W : World) : Mid m W W := ⟨Nat.le_refl _, fun _ _ _ => rfl⟩
theorem Mid.trans {m : Nat} {a b c : World} (h : Mid m a b) (k : Mid m b c) : Mid m a c := ⟨Nat.le_trans h.size k.size, fun i hi hl => (k.block i hi (Nat.lt_of_lt_of_le hl h.size)).trans (h.block i hi hl)⟩
theorem Mid.of_below {m : Nat} {a b : World} (h : Below a.heap.size a b) : Mid m a b := ⟨h.size, fun i _ hl => h.block i hl⟩
theorem Mid.set {m B : Nat} (W : World) (u : Value) (h : B < m) : Mid m W (W.setCell ⟨B, 0, none⟩ u) := by
  have hg := grownBy_setCell' W B u
  exact ⟨hg.size, fun i hi hl => hg.block i hl (fun e => by cases e; omega)⟩
theorem R_mid {m : Nat} {W w' : World} {v : Value} {l : List Int} (h : Kd.R (Kd.int .i64) 2 W m (fun _ => True) v l) (hm : Mid m W w') : Kd.R (Kd.int .i64) 2 w' m (fun _ => True) v l :=
  Kd.R_mono (Kd.R_step (Kd.R_bound h) (fun k hk hl => hm.block k hk.2.1 hl)) (fun _ _ => trivial)
def keepOne (sc : List Int → Int) (l : List Int) (st : List Int × Int) : List Int × Int := if 0 ≤ sc l ∧ (st.2 < 0 ∨ sc l < st.2) then (l, sc l) else st
def searchOf (sc : List Int → Int) (n : Nat) : Nat → List Int → List Int × Int → List Int × Int
  | 0, l, st => keepOne sc l st
  | d + 1, l, st => (List.range n).foldl (fun st (i : Nat) => if l.contains (i : Int) = true then st else searchOf sc n d (l ++ [(i : Int)]) st) st
structure Begun (n : Nat) (l : List Int) : Prop where
  nodup : l.Nodup
  range : ∀ x ∈ l, 0 ≤ x ∧ x < n
def ScoreOn (sg : Nat) (slb : Array Value) (sc : List Int → Int) (n : Nat) (w0 : World) : Prop :=
  ∀ (W : World) (A : Option Addr) (c : Nat) (l : List Int), Below w0.heap.size w0 W → Begun n l → l.length = n → l.length ≤ c → Kd.C (Kd.int .i64) W A l.length l →
    Calls Try.prog sg (#[.slice A l.length c] ++ slb) W fun e w' => e = .returned (.int .i64 (sc l)) ∧ Below W.heap.size W w'
theorem goesV_ {P : Program} {ops : Array Oper} {Q : Exit → Act → World → Prop} {oi : Oper} {N : Option Tmp} {a : Act} {w : World} {K : Act → World → Prop} {f : FuncId} {fn : Func} {ps : Array Operand} {ts : Array TypeId} {t : Operand} {lb : Array Value} (hf : P.funcs[f]? = some fn) (hname : (fn.name == "runtime.NumGoroutine") = false) (hb : fn.body.isSome = true) (args : Array Value)
    (hw : Region.wanted oi (yielded ops a.tmps) = true) (hN : oi.dst = N) (hop : oi.op = .call { callee := .value t, args := ps, argTypes := ts }) (hv : a.eval t = .func (.func f) #[] lb) (hargs : ps.map a.eval ++ lb = args)
    (h : Calls P f args w fun e w' => ∃ v, e = .returned v ∧ K (a.put N v) w') : if Region.wanted oi (yielded ops a.tmps) = true then Oper.wp P oi a w K Q else K (a.put N undef) w := by
  refine call_ f args hw hN ?_ h
  have he := enters_ hf hname hb args w
  have hv' : Act.eval a t = .func (.func f) #[] lb := hv
  unfold execOp
  simp [hop, resolve, Deferred.ofValue, invoke, hv', hargs, he]
end Go.Proofs.Ythkccaclmodjiaa.I
