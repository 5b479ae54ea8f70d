import Derived.Test.YthkccaclmodjiaazETwoIronsESearch1
import Derived.Test.YthkccaclmodjiaazETwoIronsI0
import Derived.Test.YthkccaclmodjiaazETwoIronsELayC
import Derived.Test.YthkccaclmodjiaazETwoIronsEBSearch
import Derived.Test.YthkccaclmodjiaazETwoIronsEShortest1
import Derived.Test.YthkccaclmodjiaazETwoIronsEShortest3
import Derived.Test.YthkccaclmodjiaazETwoIronsEShortest4
import Derived.Test.YthkccaclmodjiaazETwoIronsEChoose
import Derived.Test.YthkccaclmodjiaazETwoIronsI4
import Derived.Shelf.Abstract
import Derived.RangeFuncBox
import Derived.Shelf.SlSortCmp.Insertion1
import Derived.Test.YthkccaclmodjiaazETwoIronsEListsPiece
section
namespace Go.Proofs.Ythkccaclmodjiaa.I
open Go.RowKit Go.Proofs.YthkccaclmodjiaaW.PrintWords Go.Proofs.YthkccaclmodjiaaW.PrintLast Go.Proofs.YthkccaclmodjiaaW.PrintMore
attribute [local go_sem] max2_int min2_int max_two min_two max_three min_three max_four min_four
set_option linter.unusedVariables false
set_option linter.unusedSimpArgs false
def partOf {α : Type} (k : Int) (b : List Int) (l : List α) : List α := ((b.zip l).filter fun q => q.1 == k).map (·.2)
theorem partOf_snoc {α : Type} (k c : Int) (b : List Int) (l : List α) (x : α) (h : b.length = l.length) : partOf k (b ++ [c]) (l ++ [x]) = partOf k b l ++ (if c == k then [x] else []) := by
  unfold partOf
  rw [List.zip_append h, List.filter_append, List.map_append]
  congr 1
  show ((List.filter (fun q => q.1 == k) [(c, x)]).map (·.2)) = _
  rw [List.filter_cons]
  cases q : (c == k) with
  | true => rfl
  | false => rfl
def twoStep (f : List S57 → Int) (l : List S57) (st : Option (List Int × Int)) (b : List Int) : Option (List Int × Int) :=
  match st with
  | none => some (b, mx (f (partOf 0 b l)) (f (partOf 1 b l)))
  | some (c, low) => if mx (f (partOf 0 b l)) (f (partOf 1 b l)) < low then some (b, mx (f (partOf 0 b l)) (f (partOf 1 b l))) else some (c, low)
def twoOf (f : List S57 → Int) (l : List S57) : Option (List Int × Int) := (allBy l.length).foldl (twoStep f l) none
def twoFrom (f : List S57 → Int) (l : List S57) (d : Nat) (b : List Int) (st : Option (List Int × Int)) : Option (List Int × Int) := ((allBy d).map (b ++ ·)).foldl (twoStep f l) st
theorem twoFrom_zero (f : List S57 → Int) (l : List S57) (b : List Int) (st : Option (List Int × Int)) : twoFrom f l 0 b st = twoStep f l st b := by
  unfold twoFrom
  show twoStep f l st (b ++ []) = _
  rw [List.append_nil]
theorem twoFrom_succ (f : List S57 → Int) (l : List S57) (d : Nat) (b : List Int) (st : Option (List Int × Int)) : twoFrom f l (d + 1) b st = twoFrom f l d (b ++ [1]) (twoFrom f l d (b ++ [0]) st) := by
  unfold twoFrom
  rw [allBy, List.map_append, List.foldl_append, List.map_map, List.map_map]
  have e : ∀ c : Int, ((b ++ ·) ∘ fun t => c :: t) = ((b ++ [c]) ++ ·) := by
    intro c
    funext t
    show b ++ c :: t = (b ++ [c]) ++ t
    rw [List.append_assoc]
    rfl
  rw [e 0, e 1]
theorem twoFrom_all (f : List S57 → Int) (l : List S57) : twoFrom f l l.length [] none = twoOf f l := by
  unfold twoFrom twoOf
  congr 1
  exact (List.map_congr_left fun _ _ => List.nil_append _).trans (List.map_id _)
theorem twoOf_sets (f : List S57 → Int) (l : List S57) : twoOf f l = (List.range (2 ^ l.length)).foldl (fun st s => twoStep f l st (bitsOf l.length s)) none := by
  unfold twoOf
  rw [← allBy_bits, List.foldl_map]
theorem twoOf_congr {f g : List S57 → Int} (l : List S57) (h : ∀ b k, f (partOf k b l) = g (partOf k b l)) : twoOf f l = twoOf g l := by
  have : twoStep f l = twoStep g l := by
    funext st b
    cases st with
    | none => show some _ = some _; rw [h b 0, h b 1]
    | some p => show (if _ then some _ else _) = (if _ then some _ else _); rw [h b 0, h b 1]
  unfold twoOf
  rw [this]
end Go.Proofs.Ythkccaclmodjiaa.I
end
section
namespace Go.Proofs.Ythkccaclmodjiaa.I
open Go.RowKit Go.Proofs.YthkccaclmodjiaaW.PrintWords Go.Proofs.YthkccaclmodjiaaW.PrintLast Go.Proofs.YthkccaclmodjiaaW.PrintMore
attribute [local go_sem] max2_int min2_int max_two min_two max_three min_three max_four min_four
set_option linter.unusedVariables false
set_option linter.unusedSimpArgs false
theorem partOf_mem {α : Type} {k : Int} {b : List Int} {l : List α} {p : α} (h : p ∈ partOf k b l) : p ∈ l := by
  unfold partOf at h
  obtain ⟨q, hq, rfl⟩ := List.mem_map.mp h
  exact (List.of_mem_zip (List.mem_filter.mp hq).1).2
theorem partOf_len {α : Type} (k : Int) (b : List Int) (l : List α) : (partOf k b l).length ≤ l.length := by
  unfold partOf
  rw [List.length_map]
  refine Nat.le_trans (List.length_filter_le _ _) ?_
  rw [List.length_zip]
  omega
theorem part_sure {x y : Int} {l : List S57} (h : sureB x y l = true) (k : Int) (b : List Int) : sureB x y (partOf k b l) = true := by
  obtain ⟨hx, hy, h8, hf⟩ := sureB_iff.mp h
  have := partOf_len k b l
  exact sureB_iff.mpr ⟨hx, hy, by omega, fun p hp => hf p (partOf_mem hp)⟩
theorem total_scG (x y : Int) (l : List S57) (o : List Int) : scTotal x y l o = scG 0 l o (timesOf x y l 0 0 o) := by
  unfold scG scTotal
  rw [if_pos rfl]
theorem two_same {x y : Int} {l : List S57} (h : sureB x y l = true) : twoOf (fun p => (searched x y p 0).low) l = twoOf (fun p => (bestOf (scTotal x y p) p.length).2) l := by
  refine twoOf_congr l fun b k => ?_
  have e := best_same (x := x) (y := y) (l := partOf k b l) (what := 0) (part_sure h k b) (.inl rfl) (scTotal x y (partOf k b l)) (fun o => total_scG x y _ o)
  show (searched x y (partOf k b l) 0).low = (bestOf (scTotal x y (partOf k b l)) (partOf k b l).length).2
  rw [e]
theorem part_ev {x y : Int} {l : List S57} (h : sureB x y l = true) (k : Int) (b : List Int) : Ev (fun q => impl_Iron_shortest.f q x y (partOf k b l)) (bestOf (scTotal x y (partOf k b l)) (partOf k b l).length).2 := by
  obtain ⟨hx, hy, h8, hf⟩ := sureB_iff.mp (part_sure h k b)
  exact (shortest_best hx hy hf h8).1
end Go.Proofs.Ythkccaclmodjiaa.I
end
section
namespace Go.Proofs.Ythkccaclmodjiaa.I
open Go.RowKit Go.Proofs.YthkccaclmodjiaaW.PrintWords Go.Proofs.YthkccaclmodjiaaW.PrintLast Go.Proofs.YthkccaclmodjiaaW.PrintMore
attribute [local go_sem] max2_int min2_int max_two min_two max_three min_three max_four min_four
set_option linter.unusedVariables false
set_option linter.unusedSimpArgs false
def timeP (x y : Int) (p : List S57) : Int := if sureB x y p = true then (bestOf (scTotal x y p) p.length).2 else 0
theorem timeP_nonneg (x y : Int) (p : List S57) : 0 ≤ timeP x y p := by
  unfold timeP
  by_cases h : sureB x y p = true
  · rw [if_pos h]
    obtain ⟨hx, hy, h8, hf⟩ := sureB_iff.mp h
    exact (shortest_best hx hy hf h8).2.1
  · rw [if_neg h]
    exact Int.le_refl 0
theorem timeP_ev {x y : Int} {l : List S57} (h : sureB x y l = true) (k : Int) (b : List Int) : Ev (fun q => impl_Iron_shortest.f q x y (partOf k b l)) (timeP x y (partOf k b l)) := by
  unfold timeP
  rw [if_pos (part_sure h k b)]
  exact part_ev h k b
theorem timeP_two {x y : Int} {l : List S57} (h : sureB x y l = true) : twoOf (timeP x y) l = twoOf (fun p => (bestOf (scTotal x y p) p.length).2) l := by
  refine twoOf_congr l fun b k => ?_
  unfold timeP
  rw [if_pos (part_sure h k b)]
end Go.Proofs.Ythkccaclmodjiaa.I
end
section
namespace Go.Proofs.Ythkccaclmodjiaa.I
open Go.RowKit Go.Proofs.YthkccaclmodjiaaW.PrintWords Go.Proofs.YthkccaclmodjiaaW.PrintLast Go.Proofs.YthkccaclmodjiaaW.PrintMore
attribute [local go_sem] max2_int min2_int max_two min_two max_three min_three max_four min_four
set_option linter.unusedVariables false
set_option linter.unusedSimpArgs false
theorem bitsOf_len (n s : Nat) : (bitsOf n s).length = n := by
  unfold bitsOf
  rw [List.length_map, List.length_range]
theorem bitsOf_get (n s i : Nat) (h : i < (bitsOf n s).length) : (bitsOf n s)[i] = ((s / 2 ^ (n - 1 - i) % 2 : Nat) : Int) := by
  simp only [bitsOf, List.getElem_map, List.getElem_range]
theorem bitsOf_bit (n s i : Nat) (h : i < (bitsOf n s).length) : (bitsOf n s)[i] = 0 ∨ (bitsOf n s)[i] = 1 := by
  rw [bitsOf_get]
  generalize s / 2 ^ (n - 1 - i) = a
  omega
theorem partOf_take {α : Type} (k : Int) (b : List Int) (l : List α) (h : b.length = l.length) (i : Nat) (hi : i < l.length) : partOf k (b.take (i + 1)) (l.take (i + 1)) = partOf k (b.take i) (l.take i) ++ (if b[i]'(by omega) == k then [l[i]] else []) := by
  rw [← List.take_append_getElem (show i < b.length by omega), ← List.take_append_getElem hi]
  exact partOf_snoc k _ _ _ _ (by rw [List.length_take, List.length_take]; omega)
theorem bit_machine (s j : Nat) : (((s : Int) / 2 ^ j) % 2) = ((s / 2 ^ j % 2 : Nat) : Int) := by
  rw [Int.natCast_emod, Int.natCast_ediv, Int.natCast_pow]
  rfl
end Go.Proofs.Ythkccaclmodjiaa.I
end
section
namespace Go.Proofs.Ythkccaclmodjiaa.I
open Go.RowKit Go.Proofs.YthkccaclmodjiaaW.PrintWords Go.Proofs.YthkccaclmodjiaaW.PrintLast Go.Proofs.YthkccaclmodjiaaW.PrintMore
attribute [local go_sem] max2_int min2_int max_two min_two max_three min_three max_four min_four
set_option linter.unusedVariables false
set_option linter.unusedSimpArgs false
def foundOf : Option (List Int × Int) → List Int × Int
  | none => ([], -1)
  | some p => p
def overSets (f : List S57 → Int) (l : List S57) (s : Nat) : Option (List Int × Int) := (List.range s).foldl (fun st s => twoStep f l st (bitsOf l.length s)) none
theorem overSets_succ (f : List S57 → Int) (l : List S57) (s : Nat) : overSets f l (s + 1) = twoStep f l (overSets f l s) (bitsOf l.length s) := by
  unfold overSets
  rw [List.range_succ, List.foldl_append]
  rfl
theorem overSets_all (f : List S57 → Int) (l : List S57) : overSets f l (2 ^ l.length) = twoOf f l := (twoOf_sets f l).symm
theorem mx_nonneg {a b : Int} (ha : 0 ≤ a) : 0 ≤ mx a b := by
  unfold mx
  (repeat' split) <;> omega
theorem twoStep_nonneg {f : List S57 → Int} {l : List S57} (hf : ∀ p, 0 ≤ f p) (st : Option (List Int × Int)) (b : List Int) (h : ∀ p, st = some p → 0 ≤ p.2) : ∀ p, twoStep f l st b = some p → 0 ≤ p.2 := by
  intro p hp
  cases st with
  | none =>
    have hp : some (b, mx (f (partOf 0 b l)) (f (partOf 1 b l))) = some p := hp
    cases hp
    exact mx_nonneg (hf _)
  | some q =>
    have hp : (if mx (f (partOf 0 b l)) (f (partOf 1 b l)) < q.2 then some (b, mx (f (partOf 0 b l)) (f (partOf 1 b l))) else some (q.1, q.2)) = some p := hp
    by_cases c : mx (f (partOf 0 b l)) (f (partOf 1 b l)) < q.2
    · rw [if_pos c] at hp
      cases hp
      exact mx_nonneg (hf _)
    · rw [if_neg c] at hp
      cases hp
      exact h q rfl
theorem overSets_nonneg {f : List S57 → Int} {l : List S57} (hf : ∀ p, 0 ≤ f p) : ∀ s, ∀ p, overSets f l s = some p → 0 ≤ p.2
  | 0, p, h => by cases h
  | s + 1, p, h => by
    rw [overSets_succ] at h
    exact twoStep_nonneg hf _ _ (overSets_nonneg hf s) p h
theorem found_step {f : List S57 → Int} {l : List S57} (st : Option (List Int × Int)) (b : List Int) (h : ∀ p, st = some p → 0 ≤ p.2) (t : Int) (ht : t = mx (f (partOf 0 b l)) (f (partOf 1 b l))) :
    foundOf (twoStep f l st b) = if (foundOf st).2 < 0 ∨ t < (foundOf st).2 then (b, t) else foundOf st := by
  subst ht
  cases st with
  | none => rfl
  | some q =>
    have hq := h q rfl
    show foundOf (if mx (f (partOf 0 b l)) (f (partOf 1 b l)) < q.2 then some (b, mx (f (partOf 0 b l)) (f (partOf 1 b l))) else some (q.1, q.2)) = if q.2 < 0 ∨ mx (f (partOf 0 b l)) (f (partOf 1 b l)) < q.2 then (b, mx (f (partOf 0 b l)) (f (partOf 1 b l))) else q
    by_cases c : mx (f (partOf 0 b l)) (f (partOf 1 b l)) < q.2
    · rw [if_pos c, if_pos (.inr c)]
      rfl
    · rw [if_neg c, if_neg (fun e => e.elim (fun e => absurd e (by omega)) c)]
      rfl
end Go.Proofs.Ythkccaclmodjiaa.I
end
section
namespace Go.Proofs.Ythkccaclmodjiaa.I
open Go.RowKit Go.Proofs.YthkccaclmodjiaaW.PrintWords Go.Proofs.YthkccaclmodjiaaW.PrintLast Go.Proofs.YthkccaclmodjiaaW.PrintMore
attribute [local go_sem] max2_int min2_int max_two min_two max_three min_three max_four min_four
set_option linter.unusedVariables false
set_option linter.unusedSimpArgs false
open Go.Sort Go.Shelf Go.Lib
def wayOf : Option (List Int × Int) → List Int
  | none => []
  | some p => p.1
def lowOf : Option (List Int × Int) → Int
  | none => 0
  | some p => p.2
structure TwoSt (g : Nat) (x y : Int) (A2 : Option Addr) (c2 : Nat) (l : List S57) (W : World) (bv : Value) (st : Option (List Int × Int)) : Prop where
  blk : W.heap[g]? = some (.cells #[.int .i8 x, .int .i8 y, .slice A2 l.length c2, bv, .int .i64 (lowOf st), .bool st.isSome] 81 (0, 0))
  rd : Kd.C k57 W A2 l.length l
  cap : l.length ≤ c2
  rb : Kd.R (Kd.int .i64) 2 W (g + 1) (fun _ => True) bv (wayOf st)
theorem TwoSt.lt {g : Nat} {x y : Int} {A2 : Option Addr} {c2 : Nat} {l : List S57} {W : World} {bv : Value} {st : Option (List Int × Int)} (h : TwoSt g x y A2 c2 l W bv st) : g < W.heap.size := blk_lt h.blk
theorem TwoSt.below {g : Nat} {x y : Int} {A2 : Option Addr} {c2 : Nat} {l : List S57} {W w' : World} {bv : Value} {st : Option (List Int × Int)} (h : TwoSt g x y A2 c2 l W bv st) (hb : Below W.heap.size W w') : TwoSt g x y A2 c2 l w' bv st :=
  ⟨(hb.block g h.lt).trans h.blk, Kd.C_below h.rd hb, h.cap, Kd.R_below h.rb hb⟩
theorem TwoSt.put {g : Nat} {x y : Int} {A2 : Option Addr} {c2 : Nat} {l : List S57} {W : World} {bv : Value} {st : Option (List Int × Int)} (h : TwoSt g x y A2 c2 l W bv st) {v : Value} {o : List Int} (hv : Kd.R (Kd.int .i64) 2 W (g + 1) (fun _ => True) v o) (s : Int) (hrd : Kd.C k57 (((W.setCell ⟨g, 3, none⟩ v).setCell ⟨g, 4, none⟩ (.int .i64 s)).setCell ⟨g, 5, none⟩ (.bool true)) A2 l.length l) :
    TwoSt g x y A2 c2 l (((W.setCell ⟨g, 3, none⟩ v).setCell ⟨g, 4, none⟩ (.int .i64 s)).setCell ⟨g, 5, none⟩ (.bool true)) v (some (o, s)) := by
  have r1 : ∀ {W : World} {v : Value} {o : List Int} (j : Nat) (u : Value), Kd.R (Kd.int .i64) 2 W (g + 1) (fun _ => True) v o → Kd.R (Kd.int .i64) 2 (W.setCell ⟨g, j, none⟩ u) (g + 1) (fun _ => True) v o := fun j u h =>
    Kd.R_mono (Kd.R_far (p := ⟨g, j, none⟩) (Kd.R_bound h) (fun k hk => by have := hk.2.1; show k ≠ g; omega) u) (fun _ _ => trivial)
  exact ⟨blk_put (blk_put (blk_put h.blk 3 v rfl) 4 _ rfl) 5 _ rfl, hrd, h.cap, r1 _ _ (r1 _ _ (r1 _ _ hv))⟩
theorem below_put3 {g : Nat} {w0 W : World} (h : Below g w0 W) {v : Value} (s : Int) : Below g w0 (((W.setCell ⟨g, 3, none⟩ v).setCell ⟨g, 4, none⟩ (.int .i64 s)).setCell ⟨g, 5, none⟩ (.bool true)) :=
  ((h.setCell (p := ⟨g, 3, none⟩) (Nat.le_refl _) _).setCell (p := ⟨g, 4, none⟩) (Nat.le_refl _) _).setCell (p := ⟨g, 5, none⟩) (Nat.le_refl _) _
theorem mid_put3 {g : Nat} {w0 W : World} (h : Mid (g + 1) w0 W) {v : Value} (s : Int) : Mid (g + 1) w0 (((W.setCell ⟨g, 3, none⟩ v).setCell ⟨g, 4, none⟩ (.int .i64 s)).setCell ⟨g, 5, none⟩ (.bool true)) := by
  have m : ∀ (W : World) (j : Nat) (u : Value), Mid (g + 1) W (W.setCell ⟨g, j, none⟩ u) := fun W j u => ⟨by simp, fun k hk hl => Below.heap_setCell W ⟨g, j, none⟩ u k (by show k ≠ g; omega)⟩
  exact ((h.trans (m _ _ _)).trans (m _ _ _)).trans (m _ _ _)
theorem rowK_mid {α : Type} {d : Kd α} {e m : Nat} {W w' : World} {v : Value} {l : List α} (h : d.R e W m (fun _ => True) v l) (hm : Mid m W w') : d.R e w' m (fun _ => True) v l :=
  Kd.R_mono (Kd.R_step (Kd.R_bound h) (fun k hk hl => hm.block k hk.2.1 hl)) (fun _ _ => trivial)
theorem blk_mid {m : Nat} {W w' : World} {g : Nat} {o : Obj} (h : W.heap[g]? = some o) (hm : Mid m W w') (hg : m ≤ g) : w'.heap[g]? = some o := (hm.block g hg (blk_lt h)).trans h
theorem k57_flat {w : World} {base : Nat} {ok1 ok2 : Nat → Prop} {x : S57} {cs : List Value} (h : k57.M w base ok1 x cs) : k57.M w base ok2 x cs := h
theorem low_f {x y : Int} {l : List S57} (h : sureB x y l = true) (k : Int) (b : List Int) (q : Nat) : spec_l07Best.f q x y (partOf k b l) 0 = some ((searched x y (partOf k b l) 0).best, (searched x y (partOf k b l) 0).low) := if_pos ⟨part_sure h k b, .inl rfl⟩
theorem max_f (a b : Int) : spec_l00Max.f a b = some (mx a b) := by
  unfold spec_l00Max.f mx
  by_cases c : a > b
  · rw [if_pos c, if_neg (by omega)]
  · rw [if_neg c]
    by_cases d : a < b
    · rw [if_pos d]
    · rw [if_neg d, show a = b by omega]
end Go.Proofs.Ythkccaclmodjiaa.I
end
section
namespace Go.Proofs.Ythkccaclmodjiaa.I
open Go.RowKit Go.Proofs.YthkccaclmodjiaaW.PrintWords Go.Proofs.YthkccaclmodjiaaW.PrintLast Go.Proofs.YthkccaclmodjiaaW.PrintMore
attribute [local go_sem] max2_int min2_int max_two min_two max_three min_three max_four min_four
set_option linter.unusedVariables false
set_option linter.unusedSimpArgs false
structure PartsEnv (h : Nat) (W1 : World) (gn : Nat) (l : List S57) (b : List Int) (i : Nat) (vb u0 u1 : Value) (w' : World) : Prop where
  blk : w'.heap[gn]? = some (.cells #[u0, u1] 83 (0, 0))
  rb : Kd.R (Kd.int .i64) 2 w' h (fun _ => True) vb (b.take i)
  r0 : Kd.R k57 57 w' h (fun _ => True) u0 (partOf 0 (b.take i) (l.take i))
  r1 : Kd.R k57 57 w' h (fun _ => True) u1 (partOf 1 (b.take i) (l.take i))
  ne : ∀ k, u0.ownBlock = some k → u1.ownBlock ≠ some k
  lo : h ≤ gn
  hb : Below h W1 w'
structure PartsIn (h : Nat) (W1 : World) (gn g14 : Nat) (P : S57) (q0 q1 : List S57) (u0 u1 : Value) (w' : World) : Prop where
  blk : w'.heap[gn]? = some (.cells #[u0, u1] 83 (0, 0))
  pc : w'.heap[g14]? = some (.cells #[.int .i8 P.f0, .int .i8 P.f1, .int .i16 P.f2] 57 (0, 0))
  r0 : Kd.R k57 57 w' h (fun _ => True) u0 q0
  r1 : Kd.R k57 57 w' h (fun _ => True) u1 q1
  hb : Below h W1 w'
  hz : h ≤ w'.heap.size
theorem PartsIn.below {h : Nat} {W1 : World} {gn g14 : Nat} {P : S57} {q0 q1 : List S57} {u0 u1 : Value} {w' w2 : World} (E : PartsIn h W1 gn g14 P q0 q1 u0 u1 w') (hb : Below w'.heap.size w' w2) : PartsIn h W1 gn g14 P q0 q1 u0 u1 w2 :=
  ⟨blk_below E.blk hb, blk_below E.pc hb, Kd.R_below E.r0 hb, Kd.R_below E.r1 hb, E.hb.trans (hb.mono E.hz), Nat.le_trans E.hz hb.size⟩
theorem PartsIn.grown {h : Nat} {W1 : World} {gn g14 : Nat} {P : S57} {q0 q1 : List S57} {u0 u1 : Value} {w' w2 : World} (E : PartsIn h W1 gn g14 P q0 q1 u0 u1 w') {v : Value} {ok : Nat → Prop} {ys : List Int} (hv : Kd.R (Kd.int .i64) 2 w' h ok v ys) (hg : w'.grownBy w2 v.ownBlock) (hb : Below h W1 w2) : PartsIn h W1 gn g14 P q0 q1 u0 u1 w2 :=
  ⟨blk_grown E.blk hg (Kd.R_ne hv E.blk (by decide)), blk_grown E.pc hg (Kd.R_ne hv E.pc (by decide)), Kd.R_over' E.r0 (Kd.R_typed hv) (by decide) hg, Kd.R_over' E.r1 (Kd.R_typed hv) (by decide) hg, hb, Nat.le_trans E.hz hg.size⟩
theorem and_one (n : Int) : Go.bits .and .i64 n 1 = n % 2 := by
  have h1 : (BitVec.ofInt 64 1).toNat = 2 ^ 1 - 1 := by decide
  have key : (BitVec.ofInt 64 n &&& BitVec.ofInt 64 1).toNat = (n % ((2 ^ 64 : Nat) : Int)).toNat % 2 ^ 1 := by
    rw [BitVec.toNat_and, BitVec.toNat_ofInt, h1, Nat.and_two_pow_sub_one_eq_mod]
  show IntKind.i64.wrap ((BitVec.ofInt 64 n &&& BitVec.ofInt 64 1).toNat : Nat) = n % 2
  rw [key, IntKind.wrap_i64]
  omega
theorem bit_told (s n i j : Nat) (hj : n - 1 - i = j) (h : i < (bitsOf n s).length) (h8 : n ≤ 8) : Go.bits .and .i64 ((s : Int) / 2 ^ min j 64) 1 = (bitsOf n s)[i] := by
  rw [and_one, show min j 64 = j by omega, bit_machine, bitsOf_get, hj]
theorem take_next (b : List Int) (i : Nat) (h : i < b.length) : b.take (i + 1) = b.take i ++ [b[i]] := (List.take_append_getElem h).symm
theorem PartsIn.done {h : Nat} {W1 : World} {gn g14 : Nat} {P : S57} {l : List S57} {b : List Int} {i : Nat} {vb u0 u1 : Value} {w' : World} (k : Nat) (hk : k < 2) {v : Value}
    (hblk : w'.heap[gn]? = some (.cells #[u0, u1] 83 (0, 0))) (hrb : Kd.R (Kd.int .i64) 2 w' h (fun _ => True) vb (b.take i ++ [(k : Int)]))
    (hu : Kd.R k57 57 w' h (fun _ => True) v (partOf (k : Int) (b.take i) (l.take i) ++ [P])) (ho : Kd.R k57 57 w' h (fun _ => True) (if k = 0 then u1 else u0) (partOf (1 - (k : Int)) (b.take i) (l.take i)))
    (hne : ∀ q, v.ownBlock = some q → (if k = 0 then u1 else u0).ownBlock ≠ some q) (hlo : h ≤ gn) (hb : Below h W1 w') (hbl : b.length = l.length) (hi : i < l.length) (hP : rd_T57 l (i : Int) = P) (hkb : b[i]'(by omega) = (k : Int)) :
    PartsEnv h W1 gn l b (i + 1) vb (if k = 0 then v else u0) (if k = 0 then u1 else v) (w'.setCell ⟨gn, k, none⟩ v) := by
  have eb : b.take (i + 1) = b.take i ++ [(k : Int)] := by rw [take_next b i (by omega), hkb]
  have ep : ∀ c : Int, partOf c (b.take (i + 1)) (l.take (i + 1)) = partOf c (b.take i) (l.take i) ++ (if (k : Int) == c then [P] else []) := by
    intro c
    rw [partOf_take c b l hbl i hi, hkb, ← hP, rd57_lt l i hi]
  have hu' := Kd.R_set hu hblk (by decide) k v
  have ho' := Kd.R_set ho hblk (by decide) k v
  rcases (show k = 0 ∨ k = 1 by omega) with rfl | rfl
  · exact ⟨blk_put hblk 0 v rfl, by rw [eb]; exact Kd.R_set hrb hblk (by decide) 0 v, by rw [ep]; exact hu', by rw [ep]; rw [show (if ((0 : Nat) : Int) == 1 then [P] else []) = [] from rfl, List.append_nil]; exact ho', hne, hlo, hb.setCell (p := ⟨gn, 0, none⟩) hlo v⟩
  · exact ⟨blk_put hblk 1 v rfl, by rw [eb]; exact Kd.R_set hrb hblk (by decide) 1 v, by rw [ep]; rw [show (if ((1 : Nat) : Int) == 0 then [P] else []) = [] from rfl, List.append_nil]; exact ho', by rw [ep]; exact hu', fun q hq hv => hne q hv hq, hlo, hb.setCell (p := ⟨gn, 1, none⟩) hlo v⟩
theorem twoStep_some (f : List S57 → Int) (l : List S57) (st : Option (List Int × Int)) (b : List Int) : ∃ p, twoStep f l st b = some p := by
  cases st with
  | none => exact ⟨_, rfl⟩
  | some q =>
    by_cases c : mx (f (partOf 0 b l)) (f (partOf 1 b l)) < q.2
    · exact ⟨_, if_pos c⟩
    · exact ⟨_, if_neg c⟩
theorem two_found (f : List S57 → Int) (l : List S57) (N : Nat) (hN : 2 ^ l.length = N) : foundOf (overSets f l N) = (wayOf (twoOf f l), lowOf (twoOf f l)) := by
  subst hN
  obtain ⟨k, hk⟩ : ∃ k, 2 ^ l.length = k + 1 := ⟨2 ^ l.length - 1, by have := Nat.one_le_two_pow (n := l.length); omega⟩
  obtain ⟨p, hp⟩ := twoStep_some f l (overSets f l k) (bitsOf l.length k)
  rw [← overSets_succ, ← hk, overSets_all] at hp
  rw [overSets_all, hp]
  rfl
end Go.Proofs.Ythkccaclmodjiaa.I
end
