import Derived.Test.YthkccaclmodjiaazETwoIronsESortedV
import Derived.Test.YthkccaclmodjiaazETwoIronsELayC
import Derived.Test.YthkccaclmodjiaazETwoIronsEBSearch
import Derived.Test.YthkccaclmodjiaazETwoIronsEShortest1
import Derived.Test.YthkccaclmodjiaazETwoIronsEChoose
import Derived.Test.YthkccaclmodjiaazETwoIronsEListsPiece
import Derived.Test.YthkccaclmodjiaazETwoIronsI0
import Derived.Test.YthkccaclmodjiaazETwoIronsEShortest3
section
namespace Go.Proofs.Ythkccaclmodjiaa.I
open Go.RowKit Go.Proofs.YthkccaclmodjiaaW.PrintWords Go.Proofs.YthkccaclmodjiaaW.PrintLast Go.Proofs.YthkccaclmodjiaaW.PrintMore
attribute [local go_sem] max2_int min2_int max_two min_two max_three min_three max_four min_four
set_option linter.unusedVariables false
set_option linter.unusedSimpArgs false
def pathOf (x y : Int) : Int → List Int → Int
  | _, [] => 0
  | a, b :: r => chg x y a b + pathOf x y b r
theorem chg_self (x y a : Int) : chg x y a a = 0 := by
  unfold chg
  rw [if_pos (Int.le_refl a), Int.sub_self, Int.mul_zero]
theorem chg_tri (x y a b c : Int) (hx : 0 ≤ x) (hy : 0 ≤ y) (ha : 0 ≤ a ∧ a ≤ 3) (hb : 0 ≤ b ∧ b ≤ 3) (hc : 0 ≤ c ∧ c ≤ 3) : 0 ≤ chg x y a b ∧ chg x y a c ≤ chg x y a b + chg x y b c := by
  have ha' : a = 0 ∨ a = 1 ∨ a = 2 ∨ a = 3 := by omega
  have hb' : b = 0 ∨ b = 1 ∨ b = 2 ∨ b = 3 := by omega
  have hc' : c = 0 ∨ c = 1 ∨ c = 2 ∨ c = 3 := by omega
  clear ha hb hc
  unfold chg
  rcases ha' with rfl | rfl | rfl | rfl <;> rcases hb' with rfl | rfl | rfl | rfl <;> rcases hc' with rfl | rfl | rfl | rfl <;> simp only [ge_iff_le, Int.reduceLE, if_true, if_false] <;> omega
theorem path_sub (x y : Int) (hx : 0 ≤ x) (hy : 0 ≤ y) {s t : List Int} (h : s.Sublist t) : ∀ a, (0 ≤ a ∧ a ≤ 3) → (∀ b ∈ t, 0 ≤ b ∧ b ≤ 3) → pathOf x y a s ≤ pathOf x y a t := by
  induction h with
  | slnil => intro a _ _; exact Int.le_refl _
  | @cons s t b h ih =>
    intro a ha ht
    have hb := ht b (by simp)
    have i := ih a ha (fun c hc => ht c (by simp [hc]))
    have j : pathOf x y a t ≤ chg x y a b + pathOf x y b t := by
      cases t with
      | nil =>
        have := (chg_tri x y a b b hx hy ha hb hb).1
        simp only [pathOf]
        omega
      | cons c r =>
        have := (chg_tri x y a b c hx hy ha hb (ht c (by simp))).2
        simp only [pathOf]
        omega
    show _ ≤ chg x y a b + pathOf x y b t
    omega
  | @cons_cons s t b h ih =>
    intro a ha ht
    have := ih b (ht b (by simp)) (fun c hc => ht c (by simp [hc]))
    simp only [pathOf]
    omega
def firsts : List Int → List Int
  | [] => []
  | a :: r => a :: (firsts r).filter (fun b => b != a)
theorem firsts_sub : ∀ l, (firsts l).Sublist l
  | [] => .slnil
  | a :: r => by
    rw [firsts]
    exact ((List.filter_sublist).trans (firsts_sub r)).cons_cons a
theorem firsts_mem : ∀ (l : List Int) (x : Int), x ∈ firsts l ↔ x ∈ l
  | [], _ => Iff.rfl
  | a :: r, x => by
    rw [firsts, List.mem_cons, List.mem_cons, List.mem_filter, firsts_mem r x]
    constructor
    · rintro (h | h)
      · exact .inl h
      · exact .inr h.1
    · rintro (h | h)
      · exact .inl h
      · by_cases e : x = a
        · exact .inl e
        · exact .inr ⟨h, bne_iff_ne.mpr e⟩
theorem firsts_nodup : ∀ (l : List Int), (firsts l).Nodup
  | [] => List.Pairwise.nil
  | a :: r => by
    rw [firsts, List.nodup_cons]
    refine ⟨fun h => ?_, (firsts_nodup r).filter _⟩
    have := (List.mem_filter.mp h).2
    exact absurd rfl (bne_iff_ne.mp this)
def msum (f : Int → Int) : List Int → Int
  | [] => 0
  | a :: r => f a + msum f r
theorem msum_perm (f : Int → Int) {s t : List Int} (h : s.Perm t) : msum f s = msum f t := by
  induction h with
  | nil => rfl
  | cons a _ ih => rw [msum, msum, ih]
  | swap a b l => rw [msum, msum, msum, msum]; omega
  | trans _ _ h1 h2 => rw [h1, h2]
theorem msum_nonneg (f : Int → Int) : ∀ (s : List Int), (∀ i ∈ s, 0 ≤ f i) → 0 ≤ msum f s
  | [], _ => Int.le_refl _
  | a :: r, h => by
    have h1 := h a (by simp)
    have h2 := msum_nonneg f r (fun i hi => h i (by simp [hi]))
    rw [msum]
    omega
theorem msum_zero (f : Int → Int) : ∀ (s : List Int), (∀ i ∈ s, f i = 0) → msum f s = 0
  | [], _ => rfl
  | a :: r, h => by rw [msum, h a (by simp), msum_zero f r (fun i hi => h i (by simp [hi]))]; rfl
theorem lastOf_get (b : Int) (s : List Int) : lastOf (b :: s) = (b :: s)[s.length] := by
  unfold lastOf
  rw [if_neg (by rw [List.length_cons]; omega), List.length_cons, show (((s.length + 1 : Nat) : Int)) - 1 = ((s.length : Nat) : Int) by omega]
  exact rd_of_lt _ _ (by simp)
theorem last_times (x y : Int) (l : List S57) : ∀ (o : List Int) (b lv now : Int), lastOf (timesOf x y l lv now (b :: o)) = now + pathOf x y lv ((b :: o).map (fun i => (rd_T57 l i).f0)) + msum (fun i => (rd_T57 l i).f1) (b :: o)
  | [], b, lv, now => by
    rw [timesOf, timesOf, lastOf_get]
    simp only [List.map_cons, List.map_nil, pathOf, msum, List.length_nil, List.getElem_cons_zero]
    omega
  | c :: o, b, lv, now => by
    have ih := last_times x y l o c (rd_T57 l b).f0 (now + (chg x y lv (rd_T57 l b).f0 + (rd_T57 l b).f1))
    rw [timesOf, lastOf_get] at ih
    rw [timesOf, timesOf, lastOf_get]
    simp only [List.length_cons, List.getElem_cons_succ]
    rw [ih]
    simp only [List.map_cons, pathOf, msum]
    omega
theorem total_path (x y : Int) (l : List S57) (o : List Int) : scTotal x y l o = pathOf x y 0 (o.map (fun i => (rd_T57 l i).f0)) + msum (fun i => (rd_T57 l i).f1) o := by
  unfold scTotal
  cases o with
  | nil => rfl
  | cons b o => rw [last_times]; omega
theorem search_down (sc : List Int → Int) (n : Nat) : ∀ (d : Nat) (l : List Int) (st : List Int × Int), 0 ≤ st.2 → 0 ≤ (searchOf sc n d l st).2 ∧ (searchOf sc n d l st).2 ≤ st.2 := by
  intro d
  induction d with
  | zero =>
    intro l st h
    rw [searchOf, keepOne]
    split
    · next q => exact ⟨q.1, by show sc l ≤ _; omega⟩
    · exact ⟨h, Int.le_refl _⟩
  | succ d ih =>
    intro l st h
    rw [searchOf]
    have keep : ∀ (L : List Nat) (s : List Int × Int), (0 ≤ s.2 ∧ s.2 ≤ st.2) → 0 ≤ (L.foldl (fun st (i : Nat) => if l.contains (i : Int) = true then st else searchOf sc n d (l ++ [(i : Int)]) st) s).2 ∧ (L.foldl (fun st (i : Nat) => if l.contains (i : Int) = true then st else searchOf sc n d (l ++ [(i : Int)]) st) s).2 ≤ st.2 := by
      intro L
      induction L with
      | nil => intro s h; exact h
      | cons a L ihL =>
        intro s h
        rw [List.foldl_cons]
        refine ihL _ ?_
        split
        · exact h
        · have := ih (l ++ [(a : Int)]) s h.1
          exact ⟨this.1, by omega⟩
    exact keep _ _ ⟨h, Int.le_refl _⟩
theorem search_some (sc : List Int → Int) (n : Nat) : ∀ (d : Nat) (l : List Int) (st : List Int × Int), Begun n l → l.length + d = n → (searchOf sc n d l st).2 = st.2 ∨ ∃ o, Begun n o ∧ o.length = n ∧ (searchOf sc n d l st).2 = sc o := by
  intro d
  induction d with
  | zero =>
    intro l st hb hl
    rw [searchOf, keepOne]
    split
    · exact .inr ⟨l, hb, by omega, rfl⟩
    · exact .inl rfl
  | succ d ih =>
    intro l st hb hl
    rw [searchOf]
    have keep : ∀ (L : List Nat) (s : List Int × Int), (∀ a ∈ L, a < n) → (s.2 = st.2 ∨ ∃ o, Begun n o ∧ o.length = n ∧ s.2 = sc o) → ((L.foldl (fun st (i : Nat) => if l.contains (i : Int) = true then st else searchOf sc n d (l ++ [(i : Int)]) st) s).2 = st.2 ∨ ∃ o, Begun n o ∧ o.length = n ∧ (L.foldl (fun st (i : Nat) => if l.contains (i : Int) = true then st else searchOf sc n d (l ++ [(i : Int)]) st) s).2 = sc o) := by
      intro L
      induction L with
      | nil => intro s _ h; exact h
      | cons a L ihL =>
        intro s hL h
        rw [List.foldl_cons]
        refine ihL _ (fun b hb => hL b (by simp [hb])) ?_
        cases hc : l.contains (a : Int) with
        | true => rw [if_pos rfl]; exact h
        | false =>
          rw [if_neg (by decide)]
          rcases ih (l ++ [(a : Int)]) s (hb.snoc a (hL a (by simp)) hc) (by rw [List.length_append, List.length_singleton]; omega) with e | e
          · rw [e]; exact h
          · exact .inr e
    exact keep _ _ (fun a ha => List.mem_range.mp ha) (.inl rfl)
theorem search_all (sc : List Int → Int) (n : Nat) (hsc : ∀ o, Begun n o → o.length = n → 0 ≤ sc o) : ∀ (d : Nat) (l : List Int) (st : List Int × Int) (o : List Int), Begun n (l ++ o) → o.length = d → l.length + d = n → 0 ≤ (searchOf sc n d l st).2 ∧ (searchOf sc n d l st).2 ≤ sc (l ++ o) := by
  intro d
  induction d with
  | zero =>
    intro l st o hb ho hl
    obtain rfl := List.eq_nil_of_length_eq_zero ho
    rw [List.append_nil] at hb ⊢
    have h0 := hsc l hb (by omega)
    rw [searchOf, keepOne]
    split
    · exact ⟨h0, Int.le_refl _⟩
    · next q =>
      have : ¬ (st.2 < 0 ∨ sc l < st.2) := fun h => q ⟨h0, h⟩
      exact ⟨by omega, by omega⟩
  | succ d ih =>
    intro l st o hb ho hl
    cases o with
    | nil => simp at ho
    | cons k o =>
      rw [searchOf]
      have hk := hb.range k (by simp)
      obtain ⟨i, rfl⟩ : ∃ i : Nat, k = (i : Int) := ⟨k.toNat, by omega⟩
      have hc : l.contains (i : Int) = false := by
        cases hc : l.contains (i : Int) with
        | false => rfl
        | true =>
          have hm := List.contains_iff_mem.mp hc
          exact absurd rfl ((List.pairwise_append.mp hb.nodup).2.2 _ hm (i : Int) (by simp))
      have e : l ++ (i : Int) :: o = (l ++ [(i : Int)]) ++ o := by simp
      rw [e] at hb ⊢
      refine foldl_gets _ (fun s : List Int × Int => 0 ≤ s.2 ∧ s.2 ≤ sc ((l ++ [(i : Int)]) ++ o)) (fun s a h => ?_) i (fun s => ?_) _ _ (List.mem_range.mpr (by omega))
      · try dsimp only
        split
        · exact h
        · have := search_down sc n d (l ++ [(a : Int)]) s h.1
          exact ⟨this.1, by omega⟩
      · try dsimp only
        rw [hc, if_neg (by decide)]
        exact ih _ s o hb (by simpa using ho) (by rw [List.length_append, List.length_singleton]; omega)
theorem best_min (sc : List Int → Int) (n : Nat) (hsc : ∀ o, Begun n o → o.length = n → 0 ≤ sc o) : (∃ o, Begun n o ∧ o.length = n ∧ (bestOf sc n).2 = sc o) ∧ ∀ o, Begun n o → o.length = n → (bestOf sc n).2 ≤ sc o := by
  have all : ∀ o, Begun n o → o.length = n → 0 ≤ (bestOf sc n).2 ∧ (bestOf sc n).2 ≤ sc o := fun o hb ho => search_all sc n hsc n [] ([], -1) o hb ho (by simp)
  refine ⟨?_, fun o hb ho => (all o hb ho).2⟩
  have h0 := (all (iota n) ⟨iota_nodup n, fun x hx => (iota_mem n x).mp hx⟩ (iota_len n)).1
  rcases search_some sc n n [] ([], -1) ⟨List.Pairwise.nil, fun x hx => by cases hx⟩ (by simp) with e | e
  · have e2 : (bestOf sc n).2 = -1 := e
    omega
  · exact e
structure Levels (l : List S57) (D : List Int) : Prop where
  nodup : D.Nodup
  mem : ∀ a, a ∈ D ↔ ∃ i : Nat, i < l.length ∧ (rd_T57 l (i : Int)).f0 = a
def Mild (l : List S57) : Prop := ∀ i : Nat, i < l.length → (0 ≤ (rd_T57 l (i : Int)).f0 ∧ (rd_T57 l (i : Int)).f0 ≤ 3) ∧ 0 ≤ (rd_T57 l (i : Int)).f1
theorem begun_perm {n : Nat} {o : List Int} (hb : Begun n o) (ho : o.length = n) : o.Perm (iota n) := by
  subst ho
  exact perm_iota o hb.nodup hb.range
theorem mild_at {l : List S57} (h : Mild l) (k : Int) (h0 : 0 ≤ k) (h1 : k < l.length) : (0 ≤ (rd_T57 l k).f0 ∧ (rd_T57 l k).f0 ≤ 3) ∧ 0 ≤ (rd_T57 l k).f1 := by
  obtain ⟨i, rfl⟩ : ∃ i : Nat, k = (i : Int) := ⟨k.toNat, by omega⟩
  exact h i (by omega)
theorem path_nonneg (x y : Int) (hx : 0 ≤ x) (hy : 0 ≤ y) : ∀ (t : List Int) (a : Int), (0 ≤ a ∧ a ≤ 3) → (∀ b ∈ t, 0 ≤ b ∧ b ≤ 3) → 0 ≤ pathOf x y a t
  | [], _, _, _ => Int.le_refl _
  | b :: t, a, ha, ht => by
    have h1 := (chg_tri x y a b b hx hy ha (ht b (by simp)) (ht b (by simp))).1
    have h2 := path_nonneg x y hx hy t b (ht b (by simp)) (fun c hc => ht c (by simp [hc]))
    rw [pathOf]
    omega
theorem total_nonneg (x y : Int) (hx : 0 ≤ x) (hy : 0 ≤ y) (l : List S57) (hm : Mild l) (o : List Int) (hb : Begun l.length o) : 0 ≤ scTotal x y l o := by
  rw [total_path]
  have h1 : 0 ≤ pathOf x y 0 (o.map (fun i => (rd_T57 l i).f0)) := path_nonneg x y hx hy _ 0 ⟨by omega, by omega⟩ (fun b hb2 => by
    obtain ⟨i, hi, rfl⟩ := List.mem_map.mp hb2
    exact (mild_at hm i (hb.range i hi).1 (hb.range i hi).2).1)
  have h2 : 0 ≤ msum (fun i => (rd_T57 l i).f1) o := msum_nonneg _ _ (fun i hi => (mild_at hm i (hb.range i hi).1 (hb.range i hi).2).2)
  omega
def byLevels (l : List S57) (D : List Int) : List Int := D.flatMap (fun a => (iota l.length).filter (fun i => (rd_T57 l i).f0 == a))
theorem byLevels_mem (l : List S57) (D : List Int) (k : Int) : k ∈ byLevels l D ↔ (0 ≤ k ∧ k < l.length) ∧ (rd_T57 l k).f0 ∈ D := by
  unfold byLevels
  rw [List.mem_flatMap]
  constructor
  · rintro ⟨a, ha, hk⟩
    obtain ⟨h1, h2⟩ := List.mem_filter.mp hk
    rw [beq_iff_eq.mp h2]
    exact ⟨(iota_mem _ _).mp h1, ha⟩
  · rintro ⟨h1, h2⟩
    exact ⟨_, h2, List.mem_filter.mpr ⟨(iota_mem _ _).mpr h1, beq_iff_eq.mpr rfl⟩⟩
theorem byLevels_nodup (l : List S57) : ∀ (D : List Int), D.Nodup → (byLevels l D).Nodup
  | [], _ => List.Pairwise.nil
  | a :: D, h => by
    obtain ⟨h1, h2⟩ := List.nodup_cons.mp h
    have ih := byLevels_nodup l D h2
    have e : byLevels l (a :: D) = (iota l.length).filter (fun i => (rd_T57 l i).f0 == a) ++ byLevels l D := by unfold byLevels; rw [List.flatMap_cons]
    rw [e]
    refine List.pairwise_append.mpr ⟨(iota_nodup _).filter _, ih, fun i hi j hj hij => ?_⟩
    subst hij
    have q1 := beq_iff_eq.mp (List.mem_filter.mp hi).2
    have q2 := ((byLevels_mem l D i).mp hj).2
    rw [q1] at q2
    exact h1 q2
theorem path_block (x y a : Int) (r : List Int) : ∀ (s : List Int) (b : Int), (∀ c ∈ s, c = a) → pathOf x y b (s ++ r) = if s = [] then pathOf x y b r else chg x y b a + pathOf x y a r
  | [], b, _ => by rw [if_pos rfl, List.nil_append]
  | c :: s, b, h => by
    obtain rfl := h c (by simp)
    have ih := path_block x y c r s c (fun z hz => h z (by simp [hz]))
    rw [if_neg (by simp), List.cons_append, pathOf, ih]
    split
    · rfl
    · rw [chg_self]; omega
theorem byLevels_path (x y : Int) (l : List S57) : ∀ (D : List Int) (b : Int), (∀ a ∈ D, ∃ i : Nat, i < l.length ∧ (rd_T57 l (i : Int)).f0 = a) → pathOf x y b ((byLevels l D).map (fun i => (rd_T57 l i).f0)) = pathOf x y b D
  | [], _, _ => rfl
  | a :: D, b, h => by
    have ih := byLevels_path x y l D a (fun c hc => h c (by simp [hc]))
    have e : byLevels l (a :: D) = (iota l.length).filter (fun i => (rd_T57 l i).f0 == a) ++ byLevels l D := by unfold byLevels; rw [List.flatMap_cons]
    obtain ⟨i, hi, hia⟩ := h a (by simp)
    have hm : (i : Int) ∈ (iota l.length).filter (fun i => (rd_T57 l i).f0 == a) := List.mem_filter.mpr ⟨(iota_mem _ _).mpr ⟨by omega, by omega⟩, beq_iff_eq.mpr hia⟩
    rw [e, List.map_append, path_block x y a _ _ b (fun c hc => by
      obtain ⟨j, hj, rfl⟩ := List.mem_map.mp hc
      exact beq_iff_eq.mp (List.mem_filter.mp hj).2), if_neg (fun hn => by
      have := List.map_eq_nil_iff.mp hn
      rw [this] at hm
      cases hm), ih, pathOf]
theorem value_spec (x y : Int) (hx : 0 ≤ x) (hy : 0 ≤ y) (l : List S57) (hm : Mild l) : (∃ D, Levels l D ∧ (bestOf (scTotal x y l) l.length).2 = pathOf x y 0 D + msum (fun i => (rd_T57 l i).f1) (iota l.length)) ∧ ∀ D, Levels l D → (bestOf (scTotal x y l) l.length).2 ≤ pathOf x y 0 D + msum (fun i => (rd_T57 l i).f1) (iota l.length) := by
  obtain ⟨⟨o, hb, ho, he⟩, hall⟩ := best_min (scTotal x y l) l.length (fun o hb _ => total_nonneg x y hx hy l hm o hb)
  have two : ∀ D, Levels l D → (bestOf (scTotal x y l) l.length).2 ≤ pathOf x y 0 D + msum (fun i => (rd_T57 l i).f1) (iota l.length) := by
    intro D hD
    have hmem : ∀ k, k ∈ byLevels l D ↔ (0 ≤ k ∧ k < l.length) := by
      intro k
      rw [byLevels_mem]
      refine ⟨fun h => h.1, fun h => ⟨h, ?_⟩⟩
      exact (hD.mem _).mpr ⟨k.toNat, by omega, by rw [show ((k.toNat : Nat) : Int) = k by omega]⟩
    have hnd := byLevels_nodup l D hD.nodup
    have l1 := nodup_len _ (iota l.length) hnd (fun k hk => (iota_mem _ _).mpr ((hmem k).mp hk))
    have l2 := nodup_len (iota l.length) _ (iota_nodup _) (fun k hk => (hmem k).mpr ((iota_mem _ _).mp hk))
    rw [iota_len] at l1 l2
    have hb2 : Begun l.length (byLevels l D) := ⟨hnd, fun k hk => (hmem k).mp hk⟩
    have := hall _ hb2 (by omega)
    rw [total_path, byLevels_path x y l D 0 (fun a ha => (hD.mem a).mp ha), msum_perm _ (begun_perm hb2 (by omega))] at this
    exact this
  refine ⟨⟨firsts (o.map (fun i => (rd_T57 l i).f0)), ?_, ?_⟩, two⟩
  all_goals
    have hL : Levels l (firsts (o.map (fun i => (rd_T57 l i).f0))) := by
      refine ⟨firsts_nodup _, fun a => ?_⟩
      rw [firsts_mem, List.mem_map]
      constructor
      · rintro ⟨k, hk, rfl⟩
        have := hb.range k hk
        exact ⟨k.toNat, by omega, by rw [show ((k.toNat : Nat) : Int) = k by omega]⟩
      · rintro ⟨i, hi, rfl⟩
        exact ⟨(i : Int), (begun_perm hb ho).mem_iff.mpr ((iota_mem _ _).mpr ⟨by omega, by omega⟩), rfl⟩
  · exact hL
  · refine Int.le_antisymm (two _ hL) ?_
    rw [he, total_path, msum_perm _ (begun_perm hb ho)]
    have := path_sub x y hx hy (firsts_sub (o.map (fun i => (rd_T57 l i).f0))) 0 ⟨by omega, by omega⟩ (fun b hb2 => by
      obtain ⟨i, hi, rfl⟩ := List.mem_map.mp hb2
      exact (mild_at hm i (hb.range i hi).1 (hb.range i hi).2).1)
    omega
theorem value_same (x y : Int) (hx : 0 ≤ x) (hy : 0 ≤ y) (l L : List S57) (hm : Mild l) (hM : Mild L) (he : ∀ a, (∃ i : Nat, i < l.length ∧ (rd_T57 l (i : Int)).f0 = a) ↔ (∃ i : Nat, i < L.length ∧ (rd_T57 L (i : Int)).f0 = a)) (hz : ∀ i : Nat, i < L.length → (rd_T57 L (i : Int)).f1 = 0) :
    (bestOf (scTotal x y l) l.length).2 = msum (fun i => (rd_T57 l i).f1) (iota l.length) + (bestOf (scTotal x y L) L.length).2 := by
  obtain ⟨⟨D, hD, e1⟩, a1⟩ := value_spec x y hx hy l hm
  obtain ⟨⟨E, hE, e2⟩, a2⟩ := value_spec x y hx hy L hM
  have z : msum (fun i => (rd_T57 L i).f1) (iota L.length) = 0 := msum_zero _ _ (fun i hi => by
    have := (iota_mem _ _).mp hi
    have h := hz i.toNat (by omega)
    rw [show ((i.toNat : Nat) : Int) = i by omega] at h
    exact h)
  rw [z] at e2 a2
  have b1 := a1 E ⟨hE.nodup, fun a => (hE.mem a).trans (he a).symm⟩
  have b2 := a2 D ⟨hD.nodup, fun a => (hD.mem a).trans (he a)⟩
  omega
end Go.Proofs.Ythkccaclmodjiaa.I
end
section
namespace Go.Proofs.Ythkccaclmodjiaa.I
open Go.RowKit Go.Proofs.YthkccaclmodjiaaW.PrintWords Go.Proofs.YthkccaclmodjiaaW.PrintLast Go.Proofs.YthkccaclmodjiaaW.PrintMore
attribute [local go_sem] max2_int min2_int max_two min_two max_three min_three max_four min_four
set_option linter.unusedVariables false
set_option linter.unusedSimpArgs false
theorem msum_snoc (f : Int → Int) : ∀ (s : List Int) (a : Int), msum f (s ++ [a]) = msum f s + f a
  | [], a => by
    show f a + 0 = 0 + f a
    omega
  | b :: s, a => by
    show f b + msum f (s ++ [a]) = f b + msum f s + f a
    rw [msum_snoc f s a]
    omega
theorem iota_succ (n : Nat) : iota (n + 1) = iota n ++ [(n : Int)] := by
  unfold iota
  rw [List.range_succ, List.map_append]
  rfl
theorem sumMin_msum (l : List S57) : ∀ n, sumMin l n = msum (fun i => (rd_T57 l i).f1) (iota n)
  | 0 => rfl
  | n + 1 => by rw [sumMin, iota_succ, msum_snoc, sumMin_msum l n]
theorem levels_mem (l : List S57) : ∀ (n : Nat) (p : S57), p ∈ levelsTo l n ↔ ∃ i : Nat, i < n ∧ l.any (onLevel ((i : Int) + 1)) = true ∧ p = ⟨(i : Int) + 1, 0, 0⟩
  | 0, p => by
    constructor
    · intro h; cases h
    · rintro ⟨i, hi, _⟩; omega
  | n + 1, p => by
    have ih := levels_mem l n p
    rw [levelsTo]
    by_cases c : l.any (onLevel ((n : Int) + 1)) = true
    · rw [if_pos c, List.mem_append, ih, List.mem_singleton]
      constructor
      · rintro (⟨i, hi, h1, h2⟩ | h)
        · exact ⟨i, by omega, h1, h2⟩
        · exact ⟨n, by omega, c, h⟩
      · rintro ⟨i, hi, h1, h2⟩
        by_cases e : i = n
        · subst e
          exact .inr h2
        · exact .inl ⟨i, by omega, h1, h2⟩
    · rw [if_neg c, ih]
      constructor
      · rintro ⟨i, hi, h1, h2⟩
        exact ⟨i, by omega, h1, h2⟩
      · rintro ⟨i, hi, h1, h2⟩
        by_cases e : i = n
        · subst e
          exact absurd h1 c
        · exact ⟨i, by omega, h1, h2⟩
theorem mild_fine {l : List S57} (h : Fine l) : Mild l := by
  intro i hi
  rw [rd57_lt l i hi]
  have := h _ (List.getElem_mem hi)
  exact ⟨⟨by omega, by omega⟩, by omega⟩
theorem mild_fine0 {l : List S57} (h : Fine0 l) : Mild l := by
  intro i hi
  rw [rd57_lt l i hi]
  have := h _ (List.getElem_mem hi)
  exact ⟨⟨by omega, by omega⟩, by omega⟩
theorem levels_same {l : List S57} (h : Fine l) (a : Int) : (∃ i : Nat, i < l.length ∧ (rd_T57 l (i : Int)).f0 = a) ↔ (∃ i : Nat, i < (levelsTo l 3).length ∧ (rd_T57 (levelsTo l 3) (i : Int)).f0 = a) := by
  constructor
  · rintro ⟨i, hi, rfl⟩
    rw [rd57_lt l i hi]
    have hf := h _ (List.getElem_mem hi)
    have m : (⟨l[i].f0, 0, 0⟩ : S57) ∈ levelsTo l 3 := by
      refine (levels_mem l 3 _).mpr ⟨(l[i].f0 - 1).toNat, by omega, ?_, ?_⟩
      · refine List.any_eq_true.mpr ⟨l[i], List.getElem_mem hi, ?_⟩
        unfold onLevel
        exact beq_iff_eq.mpr (by omega)
      · rw [show (((l[i].f0 - 1).toNat : Nat) : Int) + 1 = l[i].f0 by omega]
    obtain ⟨j, hj, e⟩ := List.getElem_of_mem m
    exact ⟨j, hj, by rw [rd57_lt _ j hj, e]⟩
  · rintro ⟨j, hj, rfl⟩
    rw [rd57_lt _ j hj]
    obtain ⟨i, hi, h1, h2⟩ := (levels_mem l 3 _).mp (List.getElem_mem hj)
    obtain ⟨p, hp, hq⟩ := List.any_eq_true.mp h1
    obtain ⟨q, hq2, rfl⟩ := List.getElem_of_mem hp
    refine ⟨q, hq2, ?_⟩
    rw [rd57_lt l q hq2, h2]
    unfold onLevel at hq
    exact beq_iff_eq.mp hq
theorem levels_zero (l : List S57) (i : Nat) (hi : i < (levelsTo l 3).length) : (rd_T57 (levelsTo l 3) (i : Int)).f1 = 0 := by
  rw [rd57_lt _ i hi]
  obtain ⟨_, _, _, h2⟩ := (levels_mem l 3 _).mp (List.getElem_mem hi)
  rw [h2]
theorem total_bd {x y : Int} (hx : 0 ≤ x ∧ x ≤ 60) (hy : 0 ≤ y ∧ y ≤ 60) {l : List S57} (h : Fine l) {o : List Int} (hb : Begun l.length o) (h8 : o.length ≤ 8) : 0 ≤ scTotal x y l o ∧ scTotal x y l o ≤ 1920 := by
  have b := timesOf_bd x y hx hy l h o 0 0 hb.range ⟨by omega, by omega⟩ (by omega)
  unfold scTotal lastOf
  generalize timesOf x y l 0 0 o = t at b ⊢
  by_cases z : (t.length : Int) = 0
  · rw [if_pos z]
    omega
  · rw [if_neg z]
    obtain ⟨j, hj⟩ : ∃ j : Nat, (t.length : Int) - 1 = (j : Int) := ⟨t.length - 1, by omega⟩
    rw [hj, rd_of_lt t j (by omega)]
    have := b _ (List.getElem_mem (show j < t.length by omega))
    omega
theorem shortest_best {x y : Int} (hx : wrap64 x = x ∧ 0 ≤ x ∧ x ≤ 60) (hy : wrap64 y = y ∧ 0 ≤ y ∧ y ≤ 60) {l : List S57} (h : Fine l) (h8 : l.length ≤ 8) :
    Ev (fun k => impl_Iron_shortest.f k x y l) (bestOf (scTotal x y l) l.length).2 ∧ 0 ≤ (bestOf (scTotal x y l) l.length).2 ∧ (bestOf (scTotal x y l) l.length).2 ≤ 1920 := by
  have hm := mild_fine h
  have vs := value_same x y hx.2.1 hy.2.1 l (levelsTo l 3) hm (mild_fine0 (levels_fine l 3 (Nat.le_refl _))) (levels_same h) (levels_zero l)
  have bd : 0 ≤ (bestOf (scTotal x y l) l.length).2 ∧ (bestOf (scTotal x y l) l.length).2 ≤ 1920 := by
    obtain ⟨⟨o, hb, ho, e⟩, _⟩ := best_min (scTotal x y l) l.length (fun o hb _ => total_nonneg x y hx.2.1 hy.2.1 l hm o hb)
    rw [e]
    exact total_bd hx.2 hy.2 h hb (by omega)
  refine ⟨Ev.bind (minutes_ev l h h8) ?_, bd⟩
  have b : ironB x y = true := by
    unfold ironB
    rw [decide_eq_true hx, decide_eq_true hy]
    rfl
  refine Ev.ite_t b (Ev.const ?_)
  rw [sumMin_msum, ← vs, w64 _ (by omega) (by omega)]
end Go.Proofs.Ythkccaclmodjiaa.I
end
