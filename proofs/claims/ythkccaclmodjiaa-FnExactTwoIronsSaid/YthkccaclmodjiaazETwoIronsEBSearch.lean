import Derived.Test.YthkccaclmodjiaazETwoIronsEShortest1
import Derived.Test.YthkccaclmodjiaazETwoIronsESearch1
import Derived.Test.YthkccaclmodjiaazETwoIronsESearch2
import Derived.Test.YthkccaclmodjiaazETwoIronsELayC
import Derived.Test.YthkccaclmodjiaazETwoIronsI0
import Derived.Shelf.Abstract
import Derived.RangeFuncBox
import Derived.Shelf.SlSortCmp.Insertion1
import Derived.Test.YthkccaclmodjiaazETwoIronsEBLem1
import Derived.Test.YthkccaclmodjiaazETwoIronsESortedV
import Derived.Test.YthkccaclmodjiaazETwoIronsEChoose
import Derived.Test.YthkccaclmodjiaazETwoIronsEListsPiece
import Derived.Test.YthkccaclmodjiaazETwoIronsI4
section
namespace Go.Proofs.Ythkccaclmodjiaa.I
open Go.RowKit Go.Proofs.YthkccaclmodjiaaW.PrintWords Go.Proofs.YthkccaclmodjiaaW.PrintLast Go.Proofs.YthkccaclmodjiaaW.PrintMore
attribute [local go_sem] max2_int min2_int max_two min_two max_three min_three max_four min_four
set_option linter.unusedVariables false
set_option linter.unusedSimpArgs false
open Go.Sort Go.Shelf Go.Lib
def searched (x y : Int) (l : List S57) (what : Int) : Found := goOn x y l what l.length [] 0 0 0 ⟨[], 0, false⟩
def spec_l07Best.f (k : Nat) (a0_0 : Int) (a0_1 : Int) (l1 : List S57) (a2 : Int) : Option (List Int × Int) := if sureB a0_0 a0_1 l1 = true ∧ (a2 = 0 ∨ a2 = 1 ∨ a2 = 2 ∨ a2 = 3) then some ((searched a0_0 a0_1 l1 a2).best, (searched a0_0 a0_1 l1 a2).low) else none
theorem spec_l07Best.mono : ∀ a0 a1 a2 a3 k, LeO (spec_l07Best.f k a0 a1 a2 a3) (spec_l07Best.f (k + 1) a0 a1 a2 a3) := fun _ _ _ _ _ => LeO.refl _
set_option maxHeartbeats 8000000 in
set_option maxRecDepth 100000 in
theorem spec_l07Best.calls (k : Nat) (x : Int) (y : Int) (A2 : Option Addr) (c2 : Nat) (l : List (S57)) (what : Int) (r1 : List Int) (r2 : Int) (w : World) (hr1 : Kd.C k57 w A2 l.length l) (hc1 : l.length ≤ c2) (h : spec_l07Best.f k x y l what = some (r1, r2)) :
    Calls Try.prog 108 #[.agg #[.int .i8 x, .int .i8 y], .slice A2 l.length c2, .int .i64 what] w fun e w' => ∃ v0_ : Value, e = .returned (.tuple #[v0_, .int .i64 r2]) ∧ Kd.R (Kd.int .i64) 2 w' w.heap.size (fun _ => True) v0_ r1 ∧ Below w.heap.size w w' := by
  unfold spec_l07Best.f at h
  by_cases hc : sureB x y l = true ∧ (what = 0 ∨ what = 1 ∨ what = 2 ∨ what = 3)
  · rw [if_pos hc] at h
    obtain ⟨hs, hw⟩ := hc
    obtain ⟨hx, hy, h8, hf⟩ := sureB_iff.mp hs
    injection h with h
    injection h with e1 e2
    subst e1 e2
    obtain ⟨W0, hW0⟩ : ∃ W0, ((w.alloc (.cells #[.int .i8 x, .int .i8 y] 27)).alloc (.cells #[.int .i8 x, .int .i8 y, .slice A2 l.length c2, .int .i64 what, .slice none 0 0, .int .i64 0, .bool false] 107)).alloc (.cells #[] 2) = W0 := ⟨_, rfl⟩
    have hB0 : Below w.heap.size w W0 := by rw [← hW0]; exact (((Below.refl _ w).alloc (Nat.le_refl _) _).alloc (by simp) _).alloc (by simp; omega) _
    have hB1 : Below (w.heap.size + 1) (w.alloc (.cells #[.int .i8 x, .int .i8 y] 27)) W0 := by
      rw [← hW0]
      exact ((Below.refl _ _).alloc (by simp) _).alloc (by simp) _
    have hE : Srch (w.heap.size + 1) x y A2 c2 l what W0 (.slice none 0 0) ⟨[], 0, false⟩ := by
      refine ⟨?_, Kd.C_below hr1 hB0, hc1, Kd.R_nil _ _ _ _ _⟩
      rw [← hW0]
      have := World.alloc_heap_new (w.alloc (.cells #[.int .i8 x, .int .i8 y] 27)) (.cells #[.int .i8 x, .int .i8 y, .slice A2 l.length c2, .int .i64 what, .slice none 0 0, .int .i64 0, .bool false] 107)
      rw [World.size_alloc] at this
      exact (Below.heap_alloc _ _ _ (by simp)).trans this
    have hR : Kd.R (Kd.int .i64) 2 W0 (w.heap.size + 1 + 1) (fun _ => True) (.slice (some ⟨w.heap.size + 1 + 1, 0, none⟩) 0 0) [] := by
      rw [← hW0]
      have := empty_R ((w.alloc (.cells #[.int .i8 x, .int .i8 y] 27)).alloc (.cells #[.int .i8 x, .int .i8 y, .slice A2 l.length c2, .int .i64 what, .slice none 0 0, .int .i64 0, .bool false] 107)) (base := w.heap.size + 1 + 1) (by simp)
      rw [World.size_alloc, World.size_alloc] at this
      exact this
    have hr2 : Kd.C k57 (w.alloc (.cells #[.int .i8 x, .int .i8 y] 27)) A2 l.length l := Kd.C_below hr1 ((Below.refl _ w).alloc (Nat.le_refl _) _)
    have HC := Aside0.mk (from_calls (w.heap.size + 1) x y A2 c2 l what (w.alloc (.cells #[.int .i8 x, .int .i8 y] 27)) hx hy h8 hf hr2 (by simp) hw l.length (.slice (some ⟨w.heap.size + 1 + 1, 0, none⟩) 0 0) [] 0 0 0 W0 (.slice none 0 0) ⟨[], 0, false⟩ (by simp) ⟨by omega, by omega⟩ hE hR hB1)
    clear hE hR hB1 hr1 hr2 hf hs hx hy hw
    have HB0 := Aside0.mk hB0
    clear hB0
    go_enter Try.func108, Try.ntmps108
    go_wp2_with (go_at_call 121; refine HC.out.mono ?_; rintro e w1 ⟨rfl, bv, hE1, hB2, hM1⟩; have EE := Aside0.mk hE1; have BB := Aside0.mk hB2; clear hE1 hB2 hM1)
    have mixed : Try.prog.follows .mixedOrders = true := by kernel_rfl
    have gb : ∀ n os, (grow (w1.drewN n) os).cell? ⟨w.heap.size + 1, 4, none⟩ = some bv := fun n os => cell_grown EE.out.lt (blk_cell EE.out.blk 4) n os
    have gl : ∀ q os, (grow (w1.drewN q) os).cell? ⟨w.heap.size + 1, 5, none⟩ = some (.int .i64 (searched x y l what).low) := fun q os => cell_grown EE.out.lt (blk_cell EE.out.blk 5) q os
    go_quiet_grown (fail)
    go_wp2
    go_ret2
    have hb := below_grow w1 nq osq
    have hw1 : Below w.heap.size w w1 := ((Below.refl _ w).alloc (Nat.le_refl _) _).trans (BB.out.mono (by omega))
    exact ⟨bv, rfl, Kd.R_below (Kd.R_lower EE.out.rb (by omega)) hb, hw1.trans (hb.mono hw1.size)⟩
  · rw [if_neg hc] at h
    cases h
end Go.Proofs.Ythkccaclmodjiaa.I
end
section
namespace Go.Proofs.Ythkccaclmodjiaa.I
open Go.RowKit Go.Proofs.YthkccaclmodjiaaW.PrintWords Go.Proofs.YthkccaclmodjiaaW.PrintLast Go.Proofs.YthkccaclmodjiaaW.PrintMore
attribute [local go_sem] max2_int min2_int max_two min_two max_three min_three max_four min_four
set_option linter.unusedVariables false
set_option linter.unusedSimpArgs false
theorem foldl_gets {α σ : Type} (f : σ → α → σ) (Q : σ → Prop) (hp : ∀ s a, Q s → Q (f s a)) (k : α) (hk : ∀ s, Q (f s k)) : ∀ (L : List α) (s : σ), k ∈ L → Q (L.foldl f s)
  | [], _, h => by cases h
  | a :: L, s, h => by
    rw [List.foldl_cons]
    have keep : ∀ (L : List α) (s : σ), Q s → Q (L.foldl f s) := by
      intro L
      induction L with
      | nil => intro s h; exact h
      | cons b L ih => intro s h; exact ih _ (hp _ _ h)
    rcases List.mem_cons.mp h with rfl | h
    · exact keep _ _ (hk s)
    · exact foldl_gets f Q hp k hk L _ h
theorem foldl_rel {α σ τ : Type} (f : σ → α → σ) (g : τ → α → τ) (R : σ → τ → Prop) : ∀ (L : List α), (∀ a ∈ L, ∀ s t, R s t → R (f s a) (g t a)) → ∀ (s : σ) (t : τ), R s t → R (L.foldl f s) (L.foldl g t)
  | [], _, _, _, h => h
  | a :: L, hR, s, t, h => by
    rw [List.foldl_cons, List.foldl_cons]
    exact foldl_rel f g R L (fun b hb => hR b (by simp [hb])) _ _ (hR a (by simp) s t h)
theorem foldl_fix {α σ : Type} (f : σ → α → σ) (s : σ) : ∀ (L : List α), (∀ a ∈ L, f s a = s) → L.foldl f s = s
  | [], _ => rfl
  | a :: L, h => by
    rw [List.foldl_cons, h a (by simp)]
    exact foldl_fix f s L (fun b hb => h b (by simp [hb]))
theorem rd_left (o r : List Int) (j : Nat) (h : j < o.length) : rd (o ++ r) (j : Int) = rd o (j : Int) := by
  rw [rd_of_lt _ j (by rw [List.length_append]; omega), rd_of_lt o j h, List.getElem_append_left h]
theorem rd_snoc (o : List Int) (z : Int) (j : Nat) (h : j = o.length) : rd (o ++ [z]) (j : Int) = z := by
  subst h
  rw [rd_of_lt _ _ (by simp)]
  simp
theorem lastOf_snoc (t : List Int) (z : Int) (h : t.length ≤ 1000) : lastOf (t ++ [z]) = z := by
  have e : ((t ++ [z]).length : Int) = (t.length : Int) + 1 := by rw [List.length_append, List.length_singleton]; omega
  unfold lastOf
  rw [if_neg (by rw [e]; omega), e, show (t.length : Int) + 1 - 1 = (t.length : Int) by omega]
  exact rd_snoc t z t.length rfl
theorem lateList_left (l : List S57) (o t r u : List Int) (hl : t.length = o.length) : ∀ i, i ≤ o.length → lateList l (o ++ r) (t ++ u) i = lateList l o t i
  | 0, _ => rfl
  | i + 1, h => by rw [lateList, lateList, lateList_left l o t r u hl i (by omega), rd_left o r i (by omega), rd_left t u i (by omega)]
theorem lateSum_left (l : List S57) (o t r u : List Int) (hl : t.length = o.length) : ∀ i, i ≤ o.length → lateSum l (o ++ r) (t ++ u) i = lateSum l o t i
  | 0, _ => rfl
  | i + 1, h => by rw [lateSum, lateSum, lateSum_left l o t r u hl i (by omega), rd_left o r i (by omega), rd_left t u i (by omega)]
theorem sumOf_left (t u : List Int) : ∀ i, i ≤ t.length → sumOf (t ++ u) i = sumOf t i
  | 0, _ => rfl
  | i + 1, h => by rw [sumOf, sumOf, sumOf_left t u i (by omega), rd_left t u i (by omega)]
def scG (what : Int) (l : List S57) (o t : List Int) : Int := if what = 0 then lastOf t else if what = 1 then ((lateList l o t o.length).length : Int) else if what = 2 then lateSum l o t o.length else sumOf t o.length
structure Run (x y : Int) (l : List S57) (what : Int) (o : List Int) (lv now s : Int) : Prop where
  beg : Begun l.length o
  lvb : 0 ≤ lv ∧ lv ≤ 3
  nowb : 0 ≤ now ∧ now ≤ 240 * (o.length : Int)
  split : ∀ r, timesOf x y l 0 0 (o ++ r) = timesOf x y l 0 0 o ++ timesOf x y l lv now r
  lastb : lastOf (timesOf x y l 0 0 o) = now
  sc : scG what l o (timesOf x y l 0 0 o) = s
  sb : 0 ≤ s ∧ s ≤ 1920 * (o.length : Int)
theorem step_nums (now C p1 : Int) (i : Nat) (hi : i < 8) (hn : 0 ≤ now ∧ now ≤ 240 * (i : Int)) (hC : 0 ≤ C ∧ C ≤ 180) (hp : 1 ≤ p1 ∧ p1 ≤ 60) :
    wrap64 (wrap64 (now + C) + p1) = now + (C + p1) ∧ now ≤ now + (C + p1) ∧ (0 ≤ now + (C + p1) ∧ now + (C + p1) ≤ 240 * ((i + 1 : Nat) : Int)) ∧ now + (C + p1) ≤ 1920 := by
  have a : wrap64 (now + C) = now + C := w64 _ (by omega) (by omega)
  refine ⟨?_, by omega, ⟨by omega, by omega⟩, by omega⟩
  rw [a, w64 _ (by omega) (by omega)]
  omega
theorem score_nums (s c : Int) (i : Nat) (hi : i < 8) (hs : 0 ≤ s ∧ s ≤ 1920 * (i : Int)) (hc : 0 ≤ c ∧ c ≤ 1920) :
    wrap64 (s + c) = s + c ∧ s ≤ s + c ∧ (0 ≤ s + c ∧ s + c ≤ 1920 * ((i + 1 : Nat) : Int)) :=
  ⟨w64 _ (by omega) (by omega), by omega, ⟨by omega, by omega⟩⟩
theorem costF_nums (what due before now : Int) (hw : what = 0 ∨ what = 1 ∨ what = 2 ∨ what = 3) (hd : wrap64 due = due) (hd2 : 0 ≤ due ∧ due ≤ 1000) (hb : 0 ≤ before ∧ before ≤ now) (hn : now ≤ 1920) :
    (0 ≤ costF what due before now ∧ costF what due before now ≤ 1920) ∧ (what = 0 → costF what due before now = now - before) ∧ (what = 1 → costF what due before now = if now > due then 1 else 0) ∧ (what = 2 → costF what due before now = if now > due then now - due else 0) ∧ (what = 3 → costF what due before now = now) := by
  unfold costF
  rw [hd]
  have a : wrap64 (now - before) = now - before := w64 _ (by omega) (by omega)
  have b : wrap64 (now - due) = now - due := w64 _ (by omega) (by omega)
  rw [a, b]
  rcases hw with rfl | rfl | rfl | rfl
  · rw [if_pos rfl]
    refine ⟨⟨by omega, by omega⟩, fun _ => rfl, fun h => by omega, fun h => by omega, fun h => by omega⟩
  · rw [if_neg (by decide), if_pos rfl]
    refine ⟨?_, fun h => by omega, fun _ => rfl, fun h => by omega, fun h => by omega⟩
    split <;> omega
  · rw [if_neg (by decide), if_neg (by decide), if_pos rfl]
    refine ⟨?_, fun h => by omega, fun h => by omega, fun _ => ?_, fun h => by omega⟩
    · split <;> omega
    · by_cases q : now > due
      · rw [if_pos q, if_pos (by omega)]
      · rw [if_neg q, if_neg (by omega)]
  · rw [if_neg (by decide), if_neg (by decide), if_neg (by decide)]
    exact ⟨⟨by omega, by omega⟩, fun h => by omega, fun h => by omega, fun h => by omega, fun _ => rfl⟩
theorem Run.step {x y : Int} {l : List S57} {what : Int} {o : List Int} {lv now s : Int} (hs : sureB x y l = true) (hw : what = 0 ∨ what = 1 ∨ what = 2 ∨ what = 3) (H : Run x y l what o lv now s) (k : Nat) (hk : k < l.length) (hc : o.contains (k : Int) = false) (hlen : o.length < l.length) :
    Run x y l what (o ++ [(k : Int)]) (wrap64 (rd_T57 l (k : Int)).f0) (nextOf x y l lv now k) (wrap64 (s + costF what (rd_T57 l (k : Int)).f2 now (nextOf x y l lv now k))) ∧ s ≤ wrap64 (s + costF what (rd_T57 l (k : Int)).f2 now (nextOf x y l lv now k)) := by
  obtain ⟨hx, hy, h8, hf⟩ := sureB_iff.mp hs
  have f := piece_at l hf (k : Int) (by omega) (by omega)
  have tl := timesOf_len x y l o 0 0
  have hsp := H.split
  have hsc := H.sc
  have hla := H.lastb
  unfold nextOf
  rcases hP : rd_T57 l (k : Int) with ⟨p0, p1, p2⟩
  rw [hP] at f
  dsimp only at f ⊢
  have v0 := f.1
  have v1 := f.2.1
  have v2 := f.2.2.1
  have lb := lv_bd f.2.2.2.1 f.2.2.2.2.1
  have cb := chg_bd x y lv p0 hx.2 hy.2 H.lvb lb
  have pb : 1 ≤ p1 ∧ p1 ≤ 60 := ⟨f.2.2.2.2.2.1, f.2.2.2.2.2.2.1⟩
  have db : 0 ≤ p2 ∧ p2 ≤ 1000 := ⟨f.2.2.2.2.2.2.2.1, f.2.2.2.2.2.2.2.2⟩
  have i8 : o.length < 8 := by omega
  have t1 : ∀ r, timesOf x y l lv now ((k : Int) :: r) = (now + (chg x y lv p0 + p1)) :: timesOf x y l p0 (now + (chg x y lv p0 + p1)) r := fun r => by rw [timesOf, hP]
  rw [v0, v1]
  generalize chg x y lv p0 = C at cb t1 ⊢
  obtain ⟨n1, n2, n3, n4⟩ := step_nums now C p1 o.length i8 H.nowb cb pb
  rw [n1]
  generalize hnx : now + (C + p1) = nx at n1 n2 n3 n4 t1 ⊢
  obtain ⟨c0, c1, c2, c3, c4⟩ := costF_nums what p2 now nx hw v2 db ⟨H.nowb.1, n2⟩ n4
  obtain ⟨s1, s2, s3⟩ := score_nums s (costF what p2 now nx) o.length i8 H.sb c0
  rw [s1]
  have e1 : timesOf x y l 0 0 (o ++ [(k : Int)]) = timesOf x y l 0 0 o ++ [nx] := by rw [hsp, t1, timesOf]
  have ol : (o ++ [(k : Int)]).length = o.length + 1 := by rw [List.length_append, List.length_singleton]
  refine ⟨⟨H.beg.snoc k hk hc, lb, by rw [ol]; exact n3, fun r => ?_, by rw [e1]; exact lastOf_snoc _ _ (by omega), ?_, by rw [ol]; exact s3⟩, s2⟩
  · rw [e1, List.append_assoc, List.append_assoc, List.singleton_append, List.singleton_append, hsp, t1]
  · rw [e1]
    generalize timesOf x y l 0 0 o = t at tl hsc hla ⊢
    have q1 : rd (t ++ [nx]) (o.length : Int) = nx := rd_snoc t nx o.length tl.symm
    have q2 : rd (o ++ [(k : Int)]) (o.length : Int) = (k : Int) := rd_snoc o (k : Int) o.length rfl
    have q3 : (rd_T57 l (k : Int)).f2 = p2 := by rw [hP]
    unfold scG at hsc ⊢
    rcases hw with rfl | rfl | rfl | rfl
    · rw [if_pos rfl] at hsc ⊢
      rw [lastOf_snoc _ _ (by omega), c1 rfl]
      omega
    · rw [if_neg (by decide), if_pos rfl] at hsc ⊢
      rw [ol, lateList, q1, q2, q3, lateList_left l o t [(k : Int)] [nx] tl _ (Nat.le_refl _), c2 rfl, ← hsc]
      by_cases q : nx > p2
      · rw [if_pos q, if_pos q, List.length_append, List.length_singleton]
        omega
      · rw [if_neg q, if_neg q]
        omega
    · rw [if_neg (by decide), if_neg (by decide), if_pos rfl] at hsc ⊢
      rw [ol, lateSum, q1, q2, q3, lateSum_left l o t [(k : Int)] [nx] tl _ (Nat.le_refl _), c3 rfl, ← hsc]
      by_cases q : nx > p2
      · rw [if_pos q, if_pos q]
      · rw [if_neg q, if_neg q]
        omega
    · rw [if_neg (by decide), if_neg (by decide), if_neg (by decide)] at hsc ⊢
      have sl := sumOf_left t [nx] o.length (by omega)
      rw [ol, sumOf, q1, sl, hsc, c4 rfl]
      rw [c4 rfl] at s1
      exact s1
theorem Run.start (x y : Int) (l : List S57) (what : Int) (hw : what = 0 ∨ what = 1 ∨ what = 2 ∨ what = 3) : Run x y l what [] 0 0 0 := by
  refine ⟨⟨List.Pairwise.nil, fun x hx => by cases hx⟩, ⟨by omega, by omega⟩, ⟨by omega, by simp⟩, fun r => rfl, rfl, ?_, ⟨by omega, by simp⟩⟩
  rcases hw with rfl | rfl | rfl | rfl <;> rfl
section
variable {x y : Int} {l : List S57} {what : Int}
theorem search_low (hs : sureB x y l = true) (hw : what = 0 ∨ what = 1 ∨ what = 2 ∨ what = 3) (sc : List Int → Int) (hsc : ∀ o, sc o = scG what l o (timesOf x y l 0 0 o)) :
    ∀ (d : Nat) (o : List Int) (lv now s : Int), Run x y l what o lv now s → o.length + d = l.length → ∀ st : List Int × Int, 0 ≤ st.2 → st.2 ≤ s → searchOf sc l.length d o st = st := by
  intro d
  induction d with
  | zero =>
    intro o lv now s H hl st h0 h1
    rw [searchOf, keepOne, if_neg]
    rintro ⟨_, h⟩
    rw [hsc, H.sc] at h
    omega
  | succ d ih =>
    intro o lv now s H hl st h0 h1
    rw [searchOf]
    refine foldl_fix _ _ _ fun k hk => ?_
    have hk' := List.mem_range.mp hk
    cases hc : o.contains (k : Int) with
    | true => rw [if_pos rfl]
    | false =>
      rw [if_neg (by decide)]
      obtain ⟨H2, h2⟩ := H.step hs hw k hk' hc (by omega)
      exact ih _ _ _ _ H2 (by rw [List.length_append, List.length_singleton]; omega) st h0 (by omega)
def Alike (st : List Int × Int) (f : Found) : Prop := (f.is = false ∧ st = ([], -1)) ∨ (f.is = true ∧ st = (f.best, f.low) ∧ 0 ≤ f.low)
theorem search_both (hs : sureB x y l = true) (hw : what = 0 ∨ what = 1 ∨ what = 2 ∨ what = 3) (sc : List Int → Int) (hsc : ∀ o, sc o = scG what l o (timesOf x y l 0 0 o)) :
    ∀ (d : Nat) (o : List Int) (lv now s : Int), Run x y l what o lv now s → o.length + d = l.length → ∀ (st : List Int × Int) (f : Found), Alike st f → Alike (searchOf sc l.length d o st) (goOn x y l what d o lv now s f) := by
  intro d
  induction d with
  | zero =>
    intro o lv now s H hl st f hA
    by_cases q : f.is = true ∧ f.low ≤ s
    · rw [goOn, if_pos q]
      rcases hA with ⟨h, _⟩ | ⟨_, rfl, h0⟩
      · rw [h] at q; exact absurd q.1 (by decide)
      · rw [search_low hs hw sc hsc 0 o lv now s H hl _ h0 q.2]
        exact .inr ⟨q.1, rfl, h0⟩
    · rw [goOn, if_neg q, searchOf, keepOne, hsc, H.sc, if_pos]
      · exact .inr ⟨rfl, rfl, H.sb.1⟩
      · refine ⟨H.sb.1, ?_⟩
        rcases hA with ⟨_, rfl⟩ | ⟨h, rfl, _⟩
        · exact .inl (by decide)
        · exact .inr (Int.not_le.mp fun hle => q ⟨h, hle⟩)
  | succ d ih =>
    intro o lv now s H hl st f hA
    by_cases q : f.is = true ∧ f.low ≤ s
    · rw [goOn, if_pos q]
      rcases hA with ⟨h, _⟩ | ⟨_, rfl, h0⟩
      · rw [h] at q; exact absurd q.1 (by decide)
      · rw [search_low hs hw sc hsc (d + 1) o lv now s H hl _ h0 q.2]
        exact .inr ⟨q.1, rfl, h0⟩
    · rw [goOn, if_neg q, searchOf]
      refine foldl_rel _ _ Alike _ (fun k hk st f hA => ?_) _ _ hA
      have hk' := List.mem_range.mp hk
      cases hc : o.contains (k : Int) with
      | true =>
        rw [if_pos rfl, if_pos rfl]
        exact hA
      | false =>
        rw [if_neg (by decide), if_neg (by decide)]
        exact ih _ _ _ _ (H.step hs hw k hk' hc (by omega)).1 (by rw [List.length_append, List.length_singleton]; omega) st f hA
theorem goOn_keeps : ∀ (d : Nat) (o : List Int) (lv now s : Int) (f : Found), f.is = true → (goOn x y l what d o lv now s f).is = true := by
  intro d
  induction d with
  | zero =>
    intro o lv now s f h
    rw [goOn]
    split
    · exact h
    · rfl
  | succ d ih =>
    intro o lv now s f h
    rw [goOn]
    split
    · exact h
    · have keep : ∀ (L : List Nat) (f : Found), f.is = true → (L.foldl (fun st (k : Nat) => if o.contains (k : Int) = true then st else goOn x y l what d (o ++ [(k : Int)]) (wrap64 (rd_T57 l (k : Int)).f0) (nextOf x y l lv now k) (wrap64 (s + costF what (rd_T57 l (k : Int)).f2 now (nextOf x y l lv now k))) st) f).is = true := by
        intro L
        induction L with
        | nil => intro f h; exact h
        | cons a L ihL =>
          intro f h
          rw [List.foldl_cons]
          refine ihL _ ?_
          split
          · exact h
          · exact ih _ _ _ _ _ h
      exact keep _ _ h
theorem goOn_finds : ∀ (d : Nat) (o : List Int) (lv now s : Int) (f : Found), Begun l.length o → o.length + d = l.length → (goOn x y l what d o lv now s f).is = true := by
  intro d
  induction d with
  | zero =>
    intro o lv now s f _ _
    rw [goOn]
    by_cases q : f.is = true ∧ f.low ≤ s
    · rw [if_pos q]; exact q.1
    · rw [if_neg q]
  | succ d ih =>
    intro o lv now s f hb hl
    rw [goOn]
    by_cases q : f.is = true ∧ f.low ≤ s
    · rw [if_pos q]; exact q.1
    · rw [if_neg q]
      obtain ⟨k, hk, hc⟩ : ∃ k : Nat, k < l.length ∧ o.contains (k : Int) = false := by
        refine Classical.byContradiction fun hn => ?_
        have := nodup_len (iota l.length) o (iota_nodup _) (fun z hz => by
          obtain ⟨h0, h1⟩ := (iota_mem _ _).mp hz
          obtain ⟨i, rfl⟩ : ∃ i : Nat, z = (i : Int) := ⟨z.toNat, by omega⟩
          cases hc : o.contains (i : Int) with
          | true => exact List.contains_iff_mem.mp hc
          | false => exact absurd ⟨i, by omega, hc⟩ hn)
        rw [iota_len] at this
        omega
      refine foldl_gets _ (fun f : Found => f.is = true) (fun f a h => ?_) k (fun f => ?_) _ _ (List.mem_range.mpr hk)
      · split
        · exact h
        · exact goOn_keeps _ _ _ _ _ _ h
      · rw [hc, if_neg (by decide)]
        exact ih _ _ _ _ _ (hb.snoc k hk hc) (by rw [List.length_append, List.length_singleton]; omega)
theorem best_same (hs : sureB x y l = true) (hw : what = 0 ∨ what = 1 ∨ what = 2 ∨ what = 3) (sc : List Int → Int) (hsc : ∀ o, sc o = scG what l o (timesOf x y l 0 0 o)) :
    bestOf sc l.length = ((searched x y l what).best, (searched x y l what).low) := by
  have a := search_both hs hw sc hsc l.length [] 0 0 0 (Run.start x y l what hw) (by simp) ([], -1) ⟨[], 0, false⟩ (.inl ⟨rfl, rfl⟩)
  have b := goOn_finds (x := x) (y := y) (l := l) (what := what) l.length [] 0 0 0 ⟨[], 0, false⟩ ⟨List.Pairwise.nil, fun x hx => by cases hx⟩ (by simp)
  rcases a with ⟨h, _⟩ | ⟨_, h, _⟩
  · rw [b] at h
    cases h
  · exact h
end
theorem sureB_of (x y : Int) (l : List S57) (ht : Typed l) (hx : -128 ≤ x ∧ x ≤ 127) (hy : -128 ≤ y ∧ y ≤ 127) (h : codeIron x y l = 0) : sureB x y l = true := by
  obtain ⟨h8, hf⟩ := fine_of x y l ht h
  have o := okIron_bd x y hx hy (code_zero x y l h).1
  exact sureB_iff.mpr ⟨⟨o.1, o.2.2.1, o.2.2.2.1⟩, ⟨o.2.1, o.2.2.2.2.1, o.2.2.2.2.2⟩, h8, hf⟩
end Go.Proofs.Ythkccaclmodjiaa.I
end
