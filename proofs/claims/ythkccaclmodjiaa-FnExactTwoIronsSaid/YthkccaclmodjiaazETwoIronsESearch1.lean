import Derived.Test.YthkccaclmodjiaazETwoIronsI0
import Derived.Test.YthkccaclmodjiaazETwoIronsELayC
import Derived.Test.YthkccaclmodjiaazETwoIronsESortedV
import Derived.Test.YthkccaclmodjiaazETwoIronsI1
import Derived.Test.YthkccaclmodjiaazETwoIronsI4
import Derived.Shelf.Abstract
import Derived.RangeFuncBox
import Derived.Shelf.SlSortCmp.Insertion1
section
namespace Go.Proofs.Ythkccaclmodjiaa.I
open Go.RowKit Go.Proofs.YthkccaclmodjiaaW.PrintWords Go.Proofs.YthkccaclmodjiaaW.PrintLast Go.Proofs.YthkccaclmodjiaaW.PrintMore
attribute [local go_sem] max2_int min2_int max_two min_two max_three min_three max_four min_four
set_option linter.unusedVariables false
set_option linter.unusedSimpArgs false
def bitsOf (n s : Nat) : List Int := (List.range n).map fun i => ((s / 2 ^ (n - 1 - i) % 2 : Nat) : Int)
def allBy : Nat → List (List Int)
  | 0 => [[]]
  | n + 1 => (allBy n).map (fun b => (0 : Int) :: b) ++ (allBy n).map (fun b => (1 : Int) :: b)
theorem bitsOf_succ (n s : Nat) : bitsOf (n + 1) s = ((s / 2 ^ n % 2 : Nat) : Int) :: bitsOf n s := by
  unfold bitsOf
  rw [List.range_succ_eq_map, List.map_cons, List.map_map]
  congr 1
  refine List.map_congr_left fun i hi => ?_
  have := List.mem_range.mp hi
  show ((s / 2 ^ (n + 1 - 1 - (i + 1)) % 2 : Nat) : Int) = _
  rw [show n + 1 - 1 - (i + 1) = n - 1 - i by omega]
theorem bit_high (n j t : Nat) (hj : j < n) : (2 ^ n + t) / 2 ^ j % 2 = t / 2 ^ j % 2 := by
  obtain ⟨d, rfl⟩ : ∃ d, n = j + (d + 1) := ⟨n - j - 1, by omega⟩
  rw [Nat.pow_add, Nat.mul_add_div (Nat.two_pow_pos j), Nat.pow_succ]
  generalize 2 ^ d = a
  generalize t / 2 ^ j = b
  omega
theorem bitsOf_high (n t : Nat) : bitsOf n (2 ^ n + t) = bitsOf n t := by
  unfold bitsOf
  refine List.map_congr_left fun i hi => ?_
  have := List.mem_range.mp hi
  rw [bit_high n (n - 1 - i) t (by omega)]
theorem allBy_bits : ∀ n, (List.range (2 ^ n)).map (bitsOf n) = allBy n
  | 0 => rfl
  | n + 1 => by
    rw [Nat.pow_succ, Nat.mul_two, List.range_add, List.map_append, List.map_map, allBy, ← allBy_bits n, List.map_map, List.map_map]
    congr 1
    · refine List.map_congr_left fun s hs => ?_
      have := List.mem_range.mp hs
      show bitsOf (n + 1) s = 0 :: bitsOf n s
      rw [bitsOf_succ, Nat.div_eq_of_lt this]
      rfl
    · refine List.map_congr_left fun s hs => ?_
      have := List.mem_range.mp hs
      show bitsOf (n + 1) (2 ^ n + s) = 1 :: bitsOf n s
      rw [bitsOf_succ, bitsOf_high]
      have e : (2 ^ n + s) / 2 ^ n = 1 := by
        rw [Nat.add_div_left _ (Nat.two_pow_pos n), Nat.div_eq_of_lt this]
      rw [e]
      rfl
end Go.Proofs.Ythkccaclmodjiaa.I
end
section
namespace Go.Proofs.Ythkccaclmodjiaa.I
open Go.RowKit Go.Proofs.YthkccaclmodjiaaW.PrintWords Go.Proofs.YthkccaclmodjiaaW.PrintLast Go.Proofs.YthkccaclmodjiaaW.PrintMore
attribute [local go_sem] max2_int min2_int max_two min_two max_three min_three max_four min_four
set_option linter.unusedVariables false
set_option linter.unusedSimpArgs false
open Go.Sort Go.Shelf Go.Lib
def costF (what : Int) (due before now : Int) : Int := if what = 0 then wrap64 (now - before) else if what = 1 then (if now > wrap64 due then 1 else 0) else if what = 2 then (if wrap64 (now - wrap64 due) > 0 then wrap64 (now - wrap64 due) else 0) else now
structure Found where
  best : List Int
  low : Int
  is : Bool
def nextOf (x y : Int) (l : List S57) (lv now : Int) (k : Nat) : Int := wrap64 (wrap64 (now + chg x y lv (wrap64 (rd_T57 l (k : Int)).f0)) + wrap64 (rd_T57 l (k : Int)).f1)
def goOn (x y : Int) (l : List S57) (what : Int) : Nat → List Int → Int → Int → Int → Found → Found
  | 0, o, _, _, s, st => if st.is = true ∧ st.low ≤ s then st else ⟨o, s, true⟩
  | d + 1, o, lv, now, s, st => if st.is = true ∧ st.low ≤ s then st else (List.range l.length).foldl (fun st (k : Nat) => if o.contains (k : Int) = true then st else goOn x y l what d (o ++ [(k : Int)]) (wrap64 (rd_T57 l (k : Int)).f0) (nextOf x y l lv now k) (wrap64 (s + costF what (rd_T57 l (k : Int)).f2 now (nextOf x y l lv now k))) st) st
structure Srch (g : Nat) (x y : Int) (A2 : Option Addr) (c2 : Nat) (l : List S57) (what : Int) (W : World) (bv : Value) (st : Found) : Prop where
  blk : W.heap[g]? = some (.cells #[.int .i8 x, .int .i8 y, .slice A2 l.length c2, .int .i64 what, bv, .int .i64 st.low, .bool st.is] 107 (0, 0))
  rd : Kd.C k57 W A2 l.length l
  cap : l.length ≤ c2
  rb : Kd.R (Kd.int .i64) 2 W (g + 1) (fun _ => True) bv st.best
theorem Srch.lt {g : Nat} {x y : Int} {A2 : Option Addr} {c2 : Nat} {l : List S57} {what : Int} {W : World} {bv : Value} {st : Found} (h : Srch g x y A2 c2 l what W bv st) : g < W.heap.size := (Array.getElem?_eq_some_iff.1 h.blk).1
theorem Srch.below {g : Nat} {x y : Int} {A2 : Option Addr} {c2 : Nat} {l : List S57} {what : Int} {W w' : World} {bv : Value} {st : Found} (h : Srch g x y A2 c2 l what W bv st) (hb : Below W.heap.size W w') : Srch g x y A2 c2 l what w' bv st :=
  ⟨(hb.block g h.lt).trans h.blk, Kd.C_below h.rd hb, h.cap, Kd.R_below h.rb hb⟩
section
set_option maxHeartbeats 4000000
set_option maxRecDepth 100000
theorem cost_calls (g : Nat) (what p0 p1 p2 before now : Int) (W : World) (hg : g < W.heap.size) (h3 : W.cell? ⟨g, 3, none⟩ = some (.int .i64 what)) (hw : what = 0 ∨ what = 1 ∨ what = 2 ∨ what = 3) :
    Calls Try.prog 130 #[.pointer (some ⟨g, 0, none⟩), .agg #[.int .i8 p0, .int .i8 p1, .int .i16 p2], .int .i64 before, .int .i64 now] W fun e w' => e = .returned (.int .i64 (costF what p2 before now)) ∧ Below W.heap.size W w' := by
  have hu57 := Try.underlying57
  have h3' : ∀ o, (W.alloc o).cell? ⟨g, 3, none⟩ = some (.int .i64 what) := fun o => (((Below.refl W.heap.size W).alloc (Nat.le_refl _) o).cell (p := ⟨g, 3, none⟩) hg).trans h3
  have HB := Aside0.mk (show ∀ o, Below W.heap.size W (W.alloc o) from fun o => (Below.refl W.heap.size W).alloc (Nat.le_refl _) o)
  clear h3 hg
  rcases hw with rfl | rfl | rfl | rfl
  · go_enter Try.func130, Try.ntmps130
    go_wp2
    go_ret
    exact ⟨by unfold costF; rw [if_pos rfl]; rfl, HB.out _⟩
  · by_cases c : now > wrap64 p2
    · have cb : decide (wrap64 p2 < now) = true := decide_eq_true c
      have e : costF 1 p2 before now = 1 := by unfold costF; rw [if_neg (by decide), if_pos rfl, if_pos c]
      rw [e]
      go_enter Try.func130, Try.ntmps130
      go_wp2
      go_ret
      exact ⟨rfl, HB.out _⟩
    · have cb : decide (wrap64 p2 < now) = false := decide_eq_false c
      have e : costF 1 p2 before now = 0 := by unfold costF; rw [if_neg (by decide), if_pos rfl, if_neg c]
      rw [e]
      go_enter Try.func130, Try.ntmps130
      go_wp2
      go_ret
      exact ⟨rfl, HB.out _⟩
  · have e : costF 2 p2 before now = if wrap64 (now - wrap64 p2) > 0 then wrap64 (now - wrap64 p2) else 0 := by unfold costF; rw [if_neg (by decide), if_neg (by decide), if_pos rfl]
    rw [e]
    have HM := Aside0.mk (fun (w : World) => spec_l00Max.calls 0 (wrap64 (now - wrap64 p2)) _ w (max0 (wrap64 (now - wrap64 p2))))
    generalize (if wrap64 (now - wrap64 p2) > 0 then wrap64 (now - wrap64 p2) else 0) = r at HM ⊢
    go_enter Try.func130, Try.ntmps130
    go_wp2_with (go_at_call 72; refine (HM.out _).mono ?_; rintro e w2 ⟨rfl, hd⟩; have hb2 : Below w2.heap.size w2 w2 := Below.refl _ _; have HD := Aside0.mk hd)
    go_ret
    exact ⟨rfl, by first | exact (HB.out _).trans (HD.out.mono (HB.out _).size) | exact (HB.out _).trans (HD.out.below.mono (HB.out _).size) | (rw [HD.out]; exact HB.out _)⟩
  · go_enter Try.func130, Try.ntmps130
    go_wp2
    go_ret
    exact ⟨by unfold costF; rw [if_neg (by decide), if_neg (by decide), if_neg (by decide)]; rfl, HB.out _⟩
theorem change_calls (x y a b r : Int) (W : World) (h : spec_l07Change.f x y a b = some r) :
    Calls Try.prog 67 #[.agg #[.int .i8 x, .int .i8 y], .int .i64 a, .int .i64 b] W fun e w' => e = .returned (.int .i64 r) ∧ ∃ q os, w' = grow (W.drewN q) os := by
  unfold spec_l07Change.f at h
  by_cases c : b ≥ a
  · rw [if_pos c] at h
    obtain rfl := Option.some.inj h
    have cb : decide (a ≤ b) = true := decide_eq_true c
    go_enter Try.func67, Try.ntmps67
    go_wp2
    go_ret
    exact ⟨rfl, 0, _, by rw [alloc_eq_grow]; rfl⟩
  · rw [if_neg c] at h
    obtain rfl := Option.some.inj h
    have cb : decide (a ≤ b) = false := decide_eq_false c
    go_enter Try.func67, Try.ntmps67
    go_wp2
    go_ret
    exact ⟨rfl, 0, _, by rw [alloc_eq_grow]; rfl⟩
end
end Go.Proofs.Ythkccaclmodjiaa.I
end
