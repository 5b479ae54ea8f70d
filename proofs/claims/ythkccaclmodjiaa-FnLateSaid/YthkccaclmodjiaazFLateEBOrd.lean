import Derived.Test.YthkccaclmodjiaazFLateEBLem1
import Derived.Test.YthkccaclmodjiaazFLateEBTime
import Derived.Test.YthkccaclmodjiaazFLateELayS
import Derived.Test.YthkccaclmodjiaazFLateEIsOrder
import Derived.Test.YthkccaclmodjiaazFLateI0
import Derived.Test.YthkccaclmodjiaazFLateI14
import Derived.Test.YthkccaclmodjiaazFLateI15
import Derived.Test.YthkccaclmodjiaazFLateI17
import Derived.Test.YthkccaclmodjiaazFLateESortI
import Derived.Test.YthkccaclmodjiaazFLateI7
namespace Go.Proofs.Ythkccaclmodjiaa.I
open Go.RowKit Go.Proofs.YthkccaclmodjiaaW.PrintWords Go.Proofs.YthkccaclmodjiaaW.PrintLast Go.Proofs.YthkccaclmodjiaaW.PrintMore
attribute [local go_sem] max2_int min2_int max_two min_two max_three min_three max_four min_four
set_option linter.unusedVariables false
set_option linter.unusedSimpArgs false
theorem isOrder_ev (l : List Int) (n : Nat) (hm : l.length ≤ 1048576) : Ev (fun k => impl_isOrder.f k l (n : Int)) (isOrd l n) := by
 have hs : sortedList l = some (srt l) := by unfold sortedList; rw [if_pos hm]
 refine Ev.bind (Ev.const hs) ?_
 have sl := srt_len l
 have bl : (srt l).length ≤ 1048576 := by omega
 have bad : ∀ i : Nat, (h : i < (srt l).length) → (srt l)[i] ≠ (i : Int) → isOrd l n = false := by
  intro i h q
  unfold isOrd
  rw [Bool.and_eq_false_iff]
  right
  refine decide_eq_false fun e => q ?_
  have e2 : (srt l)[i] = (iota l.length)[i]'(by rw [iota_len]; omega) := by congr 1
  rw [e2, iota_get]
 refine Ev.loop (L := fun k s => impl_isOrder.l0 k l (n : Int) (srt l) ((srt l).length : Int) s) (fun s d => ∃ i : Nat, i + d = (srt l).length ∧ s = (i : Int) ∧ ∀ j : Nat, (h : j < (srt l).length) → j < i → (srt l)[j] = (j : Int)) ?_ (srt l).length 0 ⟨0, by omega, rfl, fun j _ h => absurd h (Nat.not_lt_zero _)⟩
 rintro s d ⟨i, hd, rfl, hf⟩
 by_cases c : i < (srt l).length
 · have c1 : (i : Int) < ((srt l).length : Int) := by omega
   have c2 : (0 : Int) ≤ (i : Int) := by omega
   by_cases q : (srt l)[i] = (i : Int)
   · refine .inr ⟨((i + 1 : Nat) : Int), d - 1, by omega, ⟨i + 1, by omega, rfl, ?_⟩, 0, fun k _ => ?_⟩
     · intro j h hj
       by_cases e : j = i
       · subst e
         exact q
       · exact hf j h (by omega)
     · rw [impl_isOrder.l0]
       rw [if_pos c1, if_pos c2, if_pos c1, rd_of_lt _ i c, if_pos q, w64 _ (by omega) (by omega)]
       rfl
   · refine .inl ⟨0, fun k _ => ?_⟩
     rw [impl_isOrder.l0]
     rw [if_pos c1, if_pos c2, if_pos c1, rd_of_lt _ i c, if_neg q, bad i c q]
 · obtain rfl : i = (srt l).length := by omega
   refine .inl ⟨0, fun k _ => ?_⟩
   rw [impl_isOrder.l0]
   rw [if_neg (by omega)]
   have e : srt l = iota l.length := by
    refine List.ext_getElem (by rw [iota_len, sl]) fun j h1 h2 => ?_
    rw [iota_get]
    exact hf j h1 h1
   unfold isOrd
   rw [decide_eq_true e, Bool.and_true]
   congr 1
   by_cases q : l.length = n
   · rw [decide_eq_true q, q]
     simp
   · rw [decide_eq_false q]
     exact beq_eq_false_iff_ne.mpr (by omega)
theorem isOrd_false {l : List Int} {n : Nat} (h : ¬ (l.length = n ∧ l.Nodup ∧ ∀ x ∈ l, 0 ≤ x ∧ x < n)) : isOrd l n = false := by
 cases q : isOrd l n with
 | false => rfl
 | true => exact absurd ((isOrd_iff l n).mp q) h
theorem order_ev (l : List Int) (n : Nat) (hm : l.length ≤ 1048576) : Ev (fun k => spec_l03Order.f k l (n : Int)) (isOrd l n) := by
 by_cases hn : l.length = n
 · refine Ev.ite_t (by omega) ?_
   refine Ev.loop (L := fun k s => spec_l03Order.l0 k l (n : Int) s) (fun s d => ∃ i : Nat, i + d = n ∧ s = (i : Int) ∧ ∀ j : Nat, (h : j < l.length) → j < i → (0 ≤ l[j] ∧ l[j] < n) ∧ l[j] ∉ l.take j) ?_ n 0 ⟨0, by omega, rfl, fun j _ h => absurd h (Nat.not_lt_zero _)⟩
   rintro s d ⟨i, hd, rfl, hf⟩
   by_cases c : i < l.length
   · have c0 : (i : Int) < (n : Int) := by omega
     have c1 : (i : Int) < (l.length : Int) := by omega
     have c2 : (0 : Int) ≤ (i : Int) := by omega
     have c3 : (i : Int) ≤ (l.length : Int) := by omega
     have wn : wrap64 ((n : Int) - 1) = (n : Int) - 1 := w64 _ (by omega) (by omega)
     have ti : ((i : Int) : Int).toNat = i := Int.toNat_natCast i
     have hin := same_in l[i] 0 ((n : Int) - 1)
     by_cases q : 0 ≤ l[i] ∧ l[i] ≤ (n : Int) - 1
     · rw [decide_eq_true q.1, decide_eq_true q.2] at hin
       obtain ⟨K, hK⟩ := (has_ev (l.take i) l[i] (by rw [List.length_take]; omega))
       by_cases p : l[i] ∈ l.take i
       · have pc : (l.take i).contains l[i] = true := List.contains_iff_mem.mpr p
         rw [pc] at hK
         replace hK : ∀ k, K ≤ k → spec_l00Has.f k (l.take i) l[i] = some true := hK
         have bad : isOrd l n = false := isOrd_false (by
          rintro ⟨_, nd, _⟩
          obtain ⟨j, hj, e⟩ := List.mem_take_iff_getElem.mp p
          have hj1 : j < i := by omega
          have := (List.pairwise_iff_getElem.mp nd) j i (by omega) c hj1
          exact this e)
         refine .inl ⟨K, fun k hk => ?_⟩
         rw [spec_l03Order.l0]
         rw [if_pos c0, if_pos c2, if_pos c1, rd_of_lt _ i c, wn, hin, Option.bind_some, if_pos (by rfl), if_pos c3, ti, hK k hk, Option.bind_some, if_pos rfl, bad]
       · have pc : (l.take i).contains l[i] = false := by
          cases h : (l.take i).contains l[i] with
          | false => rfl
          | true => exact absurd (List.contains_iff_mem.mp h) p
         rw [pc] at hK
         replace hK : ∀ k, K ≤ k → spec_l00Has.f k (l.take i) l[i] = some false := hK
         refine .inr ⟨((i + 1 : Nat) : Int), d - 1, by omega, ⟨i + 1, by omega, rfl, ?_⟩, K, fun k hk => ?_⟩
         · intro j h hj
           by_cases e : j = i
           · subst e
             exact ⟨⟨q.1, by omega⟩, p⟩
           · exact hf j h (by omega)
         · rw [spec_l03Order.l0]
           rw [if_pos c0, if_pos c2, if_pos c1, rd_of_lt _ i c, wn, hin, Option.bind_some, if_pos (by rfl), if_pos c3, ti, hK k hk, Option.bind_some, if_neg (by decide), w64 _ (by omega) (by omega)]
           rfl
     · have bad : isOrd l n = false := isOrd_false (by
        rintro ⟨_, _, rg⟩
        have := rg l[i] (List.getElem_mem c)
        exact q ⟨this.1, by omega⟩)
       have hfls : (decide (0 ≤ l[i]) && decide (l[i] ≤ (n : Int) - 1)) = false := by
        by_cases q1 : 0 ≤ l[i]
        · rw [decide_eq_false (fun h => q ⟨q1, h⟩), Bool.and_false]
        · rw [decide_eq_false q1, Bool.false_and]
       rw [hfls] at hin
       refine .inl ⟨0, fun k _ => ?_⟩
       rw [spec_l03Order.l0]
       rw [if_pos c0, if_pos c2, if_pos c1, rd_of_lt _ i c, wn, hin, Option.bind_some, if_neg (by decide), bad]
   · obtain rfl : i = n := by omega
     refine .inl ⟨0, fun k _ => ?_⟩
     rw [spec_l03Order.l0]
     rw [if_neg (by omega)]
     have good : isOrd l i = true := by
      refine (isOrd_iff l i).mpr ⟨hn, ?_, ?_⟩
      · refine List.pairwise_iff_getElem.mpr fun a b ha hb hab e => ?_
        refine (hf b hb (by omega)).2 ?_
        exact List.mem_take_iff_getElem.mpr ⟨a, by omega, e⟩
      · intro x hx
        obtain ⟨j, hj, rfl⟩ := List.getElem_of_mem hx
        exact (hf j hj (by omega)).1
     rw [good]
 · rw [isOrd_false (fun h => hn h.1)]
   exact Ev.ite_f (by omega) (Ev.const rfl)
def codeOrd (x y : Int) (l : List S57) (o : List Int) : Int := if codeIron x y l = 0 then (if isOrd o l.length = true then 0 else 4) else codeIron x y l
theorem orderCode_ev (x y : Int) (l : List S57) (o : List Int) (ho : o.length ≤ 1048576) : Ev (fun k => impl_orderCode.f k x y l o) (codeOrd x y l o) := by
 refine Ev.bind (ironCode_ev x y l) (Ev.bind (isOrder_ev o l.length ho) (Ev.bind (Ev.const (unless_b _ _)) (Ev.bind (firstOf_ev _ (by simp)) (Ev.const ?_))))
 unfold codeOrd
 by_cases c : codeIron x y l = 0
 · rw [if_pos c, c]
   cases isOrd o l.length <;> rfl
 · rw [if_neg c, firstNZ, if_neg c]
theorem ordered_ev (x y : Int) (l : List S57) (o : List Int) (hl : l.length ≤ 4611686018427387904) (ho : o.length ≤ 1048576) : Ev (fun k => spec_l07Ordered.f k x y l o) (codeOrd x y l o) := by
 refine Ev.bind (asked_ev x y l hl) ?_
 unfold codeOrd
 by_cases c : codeIron x y l = 0
 · rw [if_pos c, c]
   refine Ev.ite_t rfl (Ev.bind (order_ev o l.length ho) ?_)
   cases isOrd o l.length with
   | true => exact Ev.ite_t rfl (Ev.const rfl)
   | false => exact Ev.ite_f (by decide) (Ev.const rfl)
 · rw [if_neg c]
   exact Ev.ite_f c (Ev.const rfl)
def timesOf (x y : Int) (l : List S57) : Int → Int → List Int → List Int
 | _, _, [] => []
 | lv, now, o :: r => (now + (chg x y lv (rd_T57 l o).f0 + (rd_T57 l o).f1)) :: timesOf x y l (rd_T57 l o).f0 (now + (chg x y lv (rd_T57 l o).f0 + (rd_T57 l o).f1)) r
theorem timesOf_len (x y : Int) (l : List S57) : ∀ (r : List Int) (lv now : Int), (timesOf x y l lv now r).length = r.length
 | [], _, _ => rfl
 | _ :: r, _, _ => by rw [timesOf, List.length_cons, timesOf_len, List.length_cons]
theorem piece_at (l : List S57) (h : Fine l) (o : Int) (h0 : 0 ≤ o) (h1 : o < l.length) : wrap64 (rd_T57 l o).f0 = (rd_T57 l o).f0 ∧ wrap64 (rd_T57 l o).f1 = (rd_T57 l o).f1 ∧ wrap64 (rd_T57 l o).f2 = (rd_T57 l o).f2 ∧ 1 ≤ (rd_T57 l o).f0 ∧ (rd_T57 l o).f0 ≤ 3 ∧ 1 ≤ (rd_T57 l o).f1 ∧ (rd_T57 l o).f1 ≤ 60 ∧ 0 ≤ (rd_T57 l o).f2 ∧ (rd_T57 l o).f2 ≤ 1000 := by
 obtain ⟨i, rfl⟩ : ∃ i : Nat, o = (i : Int) := ⟨o.toNat, by omega⟩
 have c : i < l.length := by omega
 rw [rd57_lt l i c]
 exact h l[i] (List.getElem_mem _)
theorem step_bd (now C p1 : Int) (i : Nat) (h8 : i < 8) (hn : 0 ≤ now ∧ now ≤ 240 * (i : Int)) (hC : 0 ≤ C ∧ C ≤ 180) (hp : 1 ≤ p1 ∧ p1 ≤ 60) :
 wrap64 (C + p1) = C + p1 ∧ wrap64 (now + (C + p1)) = now + (C + p1) ∧ 0 ≤ now + (C + p1) ∧ now + (C + p1) ≤ 240 * ((i + 1 : Nat) : Int) :=
 ⟨w64 _ (by omega) (by omega), w64 _ (by omega) (by omega), by omega, by omega⟩
theorem lv_bd {p0 : Int} (h1 : 1 ≤ p0) (h3 : p0 ≤ 3) : 0 ≤ p0 ∧ p0 ≤ 3 := ⟨by omega, h3⟩
theorem finish_key (x y : Int) (hx : wrap64 x = x ∧ 0 ≤ x ∧ x ≤ 60) (hy : wrap64 y = y ∧ 0 ≤ y ∧ y ≤ 60) (l : List S57) (h : Fine l) (o : List Int) (h8 : o.length ≤ 8) (hr : ∀ z ∈ o, 0 ≤ z ∧ z < l.length) :
 ∀ (r : List Int) (i : Nat) (out : List Int) (lv now : Int), o.drop i = r → i + r.length = o.length → out.length = i → 0 ≤ lv ∧ lv ≤ 3 → 0 ≤ now ∧ now ≤ 240 * i →
  Ev (fun k => impl_Iron_finish.l0 k l out now lv o (o.length : Int) (i : Int) x y) (out ++ timesOf x y l lv now r) ∧ Ev (fun k => spec_l07Times.l0 k l o out lv now (i : Int) x y) (out ++ timesOf x y l lv now r) := by
 intro r
 induction r with
 | nil =>
  intro i out lv now hd hi _ _ _
  rw [List.length_nil] at hi
  rw [timesOf, List.append_nil]
  constructor
  · refine Ev.step (f := fun _ => some out) (fun k => ?_) (Ev.const rfl)
    rw [impl_Iron_finish.l0]
    rw [if_neg (by omega)]
  · refine Ev.step (f := fun _ => some out) (fun k => ?_) (Ev.const rfl)
    rw [spec_l07Times.l0]
    rw [if_neg (by omega)]
 | cons z r ih =>
  intro i out lv now hd hi hout hlv hnow
  rw [List.length_cons] at hi
  have c : i < o.length := by omega
  have c1 : (i : Int) < (o.length : Int) := by omega
  have c2 : (0 : Int) ≤ (i : Int) := by omega
  have c3 : out.length < 17592186044416 := by omega
  have ci8 : i < 8 := by omega
  have ci9 : i + 1 + r.length = o.length := by omega
  have w1 : wrap64 ((i : Int) + 1) = ((i + 1 : Nat) : Int) := by rw [w64 _ (by omega) (by omega)]; rfl
  have e := List.drop_eq_getElem_cons c
  rw [hd] at e
  injection e with e1 e2
  have hz := hr z (by rw [e1]; exact List.getElem_mem _)
  have rz : rd o (i : Int) = z := by rw [rd_of_lt o i c, ← e1]
  have f := piece_at l h z hz.1 hz.2
  rw [timesOf]
  rcases hP : rd_T57 l z with ⟨p0, p1, p2⟩
  rw [hP] at f
  dsimp only at f ⊢
  have cb := chg_bd x y lv p0 hx.2 hy.2 hlv (lv_bd f.2.2.2.1 f.2.2.2.2.1)
  have s1 := specChange_f x y lv p0 hx hy hlv (lv_bd f.2.2.2.1 f.2.2.2.2.1)
  have s2 := implChange_f x y lv p0 hx hy hlv (lv_bd f.2.2.2.1 f.2.2.2.2.1)
  generalize chg x y lv p0 = C at cb s1 s2 ⊢
  have b1 := f.2.2.2.2.2.1
  have b2 := f.2.2.2.2.2.2.1
  have b3 := f.2.2.2.1
  have b4 := f.2.2.2.2.1
  have v1 := f.1
  have v2 := f.2.1
  clear f
  obtain ⟨w2, w3, m1⟩ := step_bd now C p1 i ci8 hnow cb ⟨b1, b2⟩
  obtain ⟨n1, n2⟩ := ih (i + 1) (out ++ [now + (C + p1)]) p0 (now + (C + p1)) e2.symm ci9 (by rw [List.length_append, hout]; rfl) (lv_bd b3 b4) m1
  rw [List.append_assoc] at n1 n2
  constructor
  · refine Ev.step (f := fun k => impl_Iron_finish.l0 k l (out ++ [now + (C + p1)]) (now + (C + p1)) p0 o (o.length : Int) ((i + 1 : Nat) : Int) x y) (fun k => ?_) n1
    rw [impl_Iron_finish.l0]
    rw [if_pos c1, if_pos c2, if_pos c1, rz, if_pos hz.1, if_pos hz.2, hP]
    dsimp only
    rw [v1, s2, Option.bind_some, if_pos c3, v2, w2, w3, w1]
  · refine Ev.step (f := fun k => spec_l07Times.l0 k l o (out ++ [now + (C + p1)]) p0 (now + (C + p1)) ((i + 1 : Nat) : Int) x y) (fun k => ?_) n2
    rw [spec_l07Times.l0]
    rw [if_pos c1, if_pos c2, rz, if_pos hz.1, if_pos hz.2, hP]
    dsimp only
    rw [v1, s1, Option.bind_some, if_pos c3, v2, w2, w3, w1]
theorem codeOrd_zero (x y : Int) (l : List S57) (o : List Int) (h : codeOrd x y l o = 0) : codeIron x y l = 0 ∧ o.length = l.length ∧ o.Nodup ∧ ∀ z ∈ o, 0 ≤ z ∧ z < l.length := by
 unfold codeOrd at h
 by_cases c : codeIron x y l = 0
 · rw [if_pos c] at h
   cases q : isOrd o l.length with
   | true => exact ⟨c, (isOrd_iff _ _).mp q⟩
   | false => rw [q] at h; exact absurd h (by decide)
 · rw [if_neg c] at h
   exact absurd h c
theorem times_both (x y : Int) (l : List S57) (o : List Int) (ht : Typed l) (hx : -128 ≤ x ∧ x ≤ 127) (hy : -128 ≤ y ∧ y ≤ 127) (h : codeOrd x y l o = 0) :
 o.length ≤ 8 ∧ Ev (fun k => impl_Iron_finish.f k x y l o) (timesOf x y l 0 0 o) ∧ Ev (fun k => spec_l07Times.f k x y l o) (timesOf x y l 0 0 o) := by
 obtain ⟨c, hlen, _, hr⟩ := codeOrd_zero x y l o h
 obtain ⟨h8, hf⟩ := fine_of x y l ht c
 have ob := okIron_bd x y hx hy (code_zero x y l c).1
 have k := finish_key x y ⟨ob.1, ob.2.2.1, ob.2.2.2.1⟩ ⟨ob.2.1, ob.2.2.2.2.1, ob.2.2.2.2.2⟩ l hf o (by omega) hr o 0 [] 0 0 rfl (by omega) rfl ⟨by omega, by omega⟩ ⟨by omega, by omega⟩
 exact ⟨by omega, k.1, k.2⟩
def lastOf (t : List Int) : Int := if (t.length : Int) = 0 then 0 else rd t ((t.length : Int) - 1)
def sumOf (t : List Int) : Nat → Int
 | 0 => 0
 | i + 1 => wrap64 (sumOf t i + rd t (i : Int))
def finishTimes (x y : Int) (l : List S57) (o : List Int) : List Int × Int := if codeOrd x y l o = 0 then (timesOf x y l 0 0 o, 0) else ([], codeOrd x y l o)
end Go.Proofs.Ythkccaclmodjiaa.I
