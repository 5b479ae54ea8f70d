import Derived.Test.YtedbegibkcegnaczFSortedEMLem2
import Derived.Test.YtedbegibkcegnaczFSortedEMLem7i
import Derived.Test.YtedbegibkcegnaczFSortedEMLem9
import Derived.Test.YtedbegibkcegnaczFSortedEMSort
import Derived.Test.YtedbegibkcegnaczFSortedEMSorted
import Derived.Test.YtedbegibkcegnaczFSortedERead
import Derived.Test.YtedbegibkcegnaczFSortedM0
import Derived.Test.YtedbegibkcegnaczFSortedM1
import Derived.Test.YtedbegibkcegnaczFSortedM11
import Derived.Test.YtedbegibkcegnaczFSortedM15
import Derived.Test.YtedbegibkcegnaczFSortedM18
import Derived.Test.YtedbegibkcegnaczFSortedM20
namespace Go.Proofs.Ytedbegibkcegnac.Pure
open Go.RowKit Go.Proofs.Ytedbegibkcegnac.M Go.Proofs.YtedbegibkcegnacW.PrintWords Go.Proofs.YtedbegibkcegnacW.PrintLast Go.Proofs.YtedbegibkcegnacW.PrintMore
set_option linter.unusedVariables false
set_option linter.unusedSimpArgs false
theorem hasInt_ev (l : List Int) (x : Int) (hm : l.length ≤ 1048576) : Ev (fun k => spec_A2Has.f k l x) (l.contains x) := by
  have h : Ev (fun k => spec_l00Has.f k l x) (l.contains x) := by
    refine Ev.loop (L := fun k s => spec_l00Has.l0 k l x s) (fun s d => ∃ i : Nat, i + d = l.length ∧ s = (i : Int) ∧ (l.drop i).contains x = l.contains x) ?_ l.length 0 ⟨0, by omega, rfl, rfl⟩
    rintro s d ⟨i, hd, rfl, hf⟩
    by_cases c : i < l.length
    · have e : l.drop i = l[i] :: l.drop (i + 1) := List.drop_eq_getElem_cons c
      rw [e, List.contains_cons] at hf
      by_cases q : l[i] = x
      · refine .inl ⟨0, fun k _ => ?_⟩
        rw [spec_l00Has.l0]
        rw [if_pos (by omega), if_pos (by omega), rd_of_lt l i c, if_pos q, ← hf, q]
        simp
      · refine .inr ⟨((i + 1 : Nat) : Int), d - 1, by omega, ⟨i + 1, by omega, rfl, ?_⟩, 0, fun k _ => ?_⟩
        · rw [← hf]
          have : (x == l[i]) = false := beq_eq_false_iff_ne.mpr fun h => q h.symm
          rw [this]
          rfl
        · rw [spec_l00Has.l0]
          rw [if_pos (by omega), if_pos (by omega), rd_of_lt l i c, if_neg q, w64 _ (by omega) (by omega)]
          rfl
    · obtain rfl : i = l.length := by omega
      refine .inl ⟨0, fun k _ => ?_⟩
      rw [spec_l00Has.l0]
      rw [if_neg (by omega), ← hf, List.drop_length]
      rfl
  exact Ev.bind h (Ev.const rfl)
theorem sameInt_ev (l : List Int) (hm : l.length ≤ 1048576) : Ev (fun k => spec_A2Same.f k l l) true := by
  have h : Ev (fun k => spec_l00Same.f k l l) true := by
    have L : ∀ d i : Nat, i + d = l.length → Ev (fun k => spec_l00Same.l0 k l l (i : Int)) true := by
      intro d
      induction d with
      | zero => intro i hi; exact Ev.step (fun k => by rw [spec_l00Same.l0]) (Ev.ite_f (by omega) (Ev.const rfl))
      | succ d ih =>
        intro i hi
        refine Ev.step (fun k => by rw [spec_l00Same.l0]) (Ev.ite_t (by omega) (Ev.ite_t (by omega) (Ev.ite_t (by omega) (Ev.ite_t rfl ?_))))
        rw [show wrap64 ((i : Int) + 1) = ((i + 1 : Nat) : Int) by rw [w64 _ (by omega) (by omega)]; rfl]
        exact ih (i + 1) (by omega)
    exact Ev.ite_t rfl (L l.length 0 (by omega))
  exact Ev.bind h (Ev.const rfl)
theorem rd6 (ls : List (List Int)) (k : Nat) : rd_L6 ls (k : Int) = ls.getD k [] := by
  show ls.getD (k : Int).toNat [] = _
  rw [Int.toNat_natCast]
theorem row_le (ls : List (List Int)) (k : Nat) : (ls.getD k []).length ≤ ls.flatten.length := row_short ls k
theorem sameLists_ev (ls : List (List Int)) (hm : ls.length ≤ 1000) (hf : ls.flatten.length ≤ 1000) : Ev (fun k => spec_A2SameLists.f k ls ls) true := by
  have L : ∀ d i : Nat, i + d = ls.length → Ev (fun k => spec_A2SameLists.l0 k ls ls (i : Int)) true := by
    intro d
    induction d with
    | zero => intro i hi; exact Ev.step (fun k => by rw [spec_A2SameLists.l0]) (Ev.ite_f (by omega) (Ev.const rfl))
    | succ d ih =>
      intro i hi
      have hs := row_le ls i
      have same : Ev (fun k => spec_l00Same.f k (rd_L6 ls (i : Int)) (rd_L6 ls (i : Int))) true := by
        rw [rd6]
        obtain ⟨K, hK⟩ := sameInt_ev (ls.getD i []) (by omega)
        refine ⟨K, fun k hk => ?_⟩
        have := hK k hk
        unfold spec_A2Same.f at this
        obtain ⟨b, h1, h2⟩ := Option.bind_eq_some_iff.mp this
        dsimp only
        rw [h1]
        exact h2
      refine Ev.step (fun k => by rw [spec_A2SameLists.l0]) (Ev.ite_t (by omega) (Ev.ite_t (by omega) (Ev.ite_t (by omega) (Ev.bind same (Ev.ite_t rfl ?_)))))
      rw [show wrap64 ((i : Int) + 1) = ((i + 1 : Nat) : Int) by rw [w64 _ (by omega) (by omega)]; rfl]
      exact ih (i + 1) (by omega)
  exact Ev.ite_t rfl (L ls.length 0 (by omega))
theorem rd_in (l : List Int) (i : Nat) (h : i < l.length) : rd l (i : Int) ∈ l := by
  rw [rd_of_lt l i h]
  exact List.getElem_mem h
theorem next_w (i : Nat) (h : i ≤ 100000) : wrap64 ((i : Int) + 1) = ((i + 1 : Nat) : Int) := by rw [w64 _ (by omega) (by omega)]; rfl
structure Case (n : Nat) (G SE : List Int) (m : Int) : Prop where
  nb : 3 ≤ n ∧ n ≤ 7
  gl : 1 ≤ G.length ∧ G.length ≤ 40
  gb : ∀ x ∈ G, 0 ≤ x ∧ x < 128
  gc : listCode (n : Int) G = 0
  ga : Apart G
  sl : SE.length ≤ 5
  so : ∀ x ∈ SE, okMark (n : Int) x = true
  mb : 0 ≤ m ∧ m < 128
  mo : okMark (n : Int) m = true
def leastAt (G : List Int) (m : Int) (k : Nat) : Int := if (likely G m k).1 < 0 then 99 else (likely G m k).1
theorem last_ev {n : Nat} {G SE : List Int} {m : Int} (C : Case n G SE m) (d : Nat) : ∀ k : Nat, k + d = G.length →
    Ev (fun q => laws_FnSorted.l5 q (n : Int) G m (likely G m G.length).2 (leastAt G m G.length) (k : Int)) true := by
  have gv : ∀ x ∈ G, 0 ≤ x ∧ x < 65536 := fun x hx => ⟨(C.gb x hx).1, by have := (C.gb x hx).2; omega⟩
  have hgl := C.gl
  have hmb := C.mb
  induction d with
  | zero =>
    intro k hk
    obtain rfl : k = G.length := by omega
    obtain ⟨hs, hi⟩ := LeastApart_both (n : Int) G (by omega) gv
    have e : leastApart (n : Int) G = if G.length ≤ 1 then (0, 6) else (leastTo G G.length, 0) := by
      unfold leastApart
      rw [if_pos C.gc]
    rw [e] at hs hi
    refine Ev.step (fun q => by rw [laws_FnSorted.l5]) (Ev.ite_f (by omega) ?_)
    refine Ev.bind hi (Ev.bind hs (Ev.ite_t rfl (Ev.ite_t rfl ?_)))
    by_cases c : G.length ≤ 1
    · rw [if_pos c]
      refine Ev.ite_t ?_ (Ev.ite_f (by decide) (Ev.const rfl))
      rw [decide_eq_false (by omega)]
      rfl
    · rw [if_neg c]
      refine Ev.ite_t ?_ (Ev.ite_t rfl (Ev.const ?_))
      · rw [decide_eq_true (by omega)]
        rfl
      · have := (leastTo_two G C.gb C.ga (far_two G C.gb C.ga) G.length (Nat.le_refl _)).2 (by omega)
        dsimp only
        rw [decide_eq_true (by omega)]
  | succ d ih =>
    intro k hk
    have hx := gv _ (rd_in G k (by omega))
    have L := likelySo G m gv C.mb.1 G.length (Nat.le_refl _)
    have ll := likely_len G m G.length
    have hh := hasInt_ev (likely G m G.length).2 (k : Int) (by omega)
    have next := ih (k + 1) (by omega)
    have w := next_w k (by omega)
    refine Ev.step (fun q => by rw [laws_FnSorted.l5]) (Ev.ite_t (by omega) (Ev.ite_t (by omega) ?_))
    by_cases f : fits G m k
    · refine Ev.ite_t f (Ev.bind (Ev.const (stitchesIn_f _ hx.1 hx.2)) (Ev.bind (Ev.const (stitchesIn_f m (by omega) (by omega))) (Ev.bind hh ?_)))
      have lb := lost_bd G m gv C.mb.1 k (by omega) f
      have e1 : wrap64 (sumBits (rd G (k : Int)) 16 - sumBits m 16) = lostOf (rd G (k : Int)) m := by
        have : sumBits (rd G (k : Int)) 16 - sumBits m 16 = lostOf (rd G (k : Int)) m := rfl
        rw [this, w64 _ (by omega) (by omega)]
      have e2 : ((likely G m G.length).2.contains (k : Int)) = (lostOf (rd G (k : Int)) m == leastAt G m G.length) := by
        rw [Bool.eq_iff_iff, List.contains_iff_mem, L.mem k, beq_iff_eq]
        unfold leastAt
        rcases L.least with ⟨h1, h2⟩ | ⟨h1, h2⟩
        · exact absurd f (h2 k (by omega))
        · rw [if_neg (by omega)]
          exact ⟨fun h => h.2.2, fun h => ⟨by omega, f, h⟩⟩
      rw [e1, e2]
      refine Ev.ite_f (by simp) ?_
      rw [w]
      exact next
    · have e2 : ((likely G m G.length).2.contains (k : Int)) = false := by
        rw [Bool.eq_false_iff]
        intro h
        exact f ((L.mem k).mp (List.contains_iff_mem.mp h)).2.1
      rw [e2] at hh
      refine Ev.ite_f f (Ev.bind hh (Ev.ite_f (by decide) ?_))
      rw [w]
      exact next
theorem leastAt_in (G : List Int) (m : Int) (gv : ∀ x ∈ G, 0 ≤ x ∧ x < 65536) (h0 : 0 ≤ m) (k : Nat) (hk : k < G.length) (f : fits G m k) : mn (leastAt G m k) (lostOf (rd G (k : Int)) m) = leastAt G m (k + 1) := by
  have lb := lost_bd G m gv h0 k hk f
  have L := likelySo G m gv h0 k (by omega)
  have e : likely G m (k + 1) = if Go.bits .andNot .u16 m (rd G (k : Nat)) = 0 then (if (likely G m k).1 < 0 ∨ lostOf (rd G (k : Nat)) m < (likely G m k).1 then (lostOf (rd G (k : Nat)) m, [(k : Int)]) else if lostOf (rd G (k : Nat)) m = (likely G m k).1 then ((likely G m k).1, (likely G m k).2 ++ [(k : Int)]) else likely G m k) else likely G m k := rfl
  unfold leastAt
  rw [e, if_pos (show Go.bits .andNot .u16 m (rd G (k : Nat)) = 0 from f)]
  have hl := L.least
  generalize likely G m k = p at hl ⊢
  generalize lostOf (rd G (k : Nat)) m = t at lb ⊢
  by_cases c : p.1 < 0 ∨ t < p.1
  · rw [if_pos c, if_neg (show ¬ (t, [(k : Int)]).1 < 0 by dsimp only; omega)]
    dsimp only
    unfold mn
    by_cases c2 : p.1 < 0
    · rw [if_pos c2, if_pos (by omega)]
    · rw [if_neg c2, if_pos (by omega)]
  · rw [if_neg c, if_neg (show ¬ p.1 < 0 by omega)]
    unfold mn
    by_cases d : t = p.1
    · rw [if_pos d, if_neg (by omega), if_neg (show ¬ (p.1, p.2 ++ [(k : Int)]).1 < 0 by dsimp only; omega)]
    · rw [if_neg d, if_neg (by omega), if_neg (by omega)]
theorem leastAt_out (G : List Int) (m : Int) (k : Nat) (f : ¬ fits G m k) : leastAt G m (k + 1) = leastAt G m k := by
  have e : likely G m (k + 1) = if Go.bits .andNot .u16 m (rd G (k : Nat)) = 0 then (if (likely G m k).1 < 0 ∨ lostOf (rd G (k : Nat)) m < (likely G m k).1 then (lostOf (rd G (k : Nat)) m, [(k : Int)]) else if lostOf (rd G (k : Nat)) m = (likely G m k).1 then ((likely G m k).1, (likely G m k).2 ++ [(k : Int)]) else likely G m k) else likely G m k := rfl
  unfold leastAt
  rw [e, if_neg (show ¬ Go.bits .andNot .u16 m (rd G (k : Nat)) = 0 from f)]
theorem least_ev {n : Nat} {G SE : List Int} {m : Int} (C : Case n G SE m) (d : Nat) : ∀ k : Nat, k + d = G.length →
    Ev (fun q => laws_FnSorted.l4 q (n : Int) G m (likely G m G.length).2 (leastAt G m k) (k : Int)) true := by
  have gv : ∀ x ∈ G, 0 ≤ x ∧ x < 65536 := fun x hx => ⟨(C.gb x hx).1, by have := (C.gb x hx).2; omega⟩
  have hgl := C.gl
  have hmb := C.mb
  induction d with
  | zero =>
    intro k hk
    obtain rfl : k = G.length := by omega
    refine Ev.step (fun q => by rw [laws_FnSorted.l4]) (Ev.ite_f (by omega) ?_)
    exact last_ev C G.length 0 (by omega)
  | succ d ih =>
    intro k hk
    have hx := gv _ (rd_in G k (by omega))
    have next := ih (k + 1) (by omega)
    have w := next_w k (by omega)
    refine Ev.step (fun q => by rw [laws_FnSorted.l4]) (Ev.ite_t (by omega) (Ev.ite_t (by omega) ?_))
    by_cases f : fits G m k
    · refine Ev.ite_t f (Ev.bind (Ev.const (stitchesIn_f _ hx.1 hx.2)) (Ev.bind (Ev.const (stitchesIn_f m (by omega) (by omega))) ?_))
      have lb := lost_bd G m gv C.mb.1 k (by omega) f
      have e1 : wrap64 (sumBits (rd G (k : Int)) 16 - sumBits m 16) = lostOf (rd G (k : Int)) m := by
        have : sumBits (rd G (k : Int)) 16 - sumBits m 16 = lostOf (rd G (k : Int)) m := rfl
        rw [this, w64 _ (by omega) (by omega)]
      rw [e1, leastAt_in G m gv C.mb.1 k (by omega) f, w]
      exact next
    · refine Ev.ite_f f ?_
      rw [w, ← leastAt_out G m k f]
      exact next
theorem missTo_get (l0 l1 : List Int) : ∀ (N i : Nat), i < N → rd (missTo l0 l1 N) (i : Int) = lackOne (rd l0 (i : Int)) (rd l1 (i : Int))
  | 0, i, h => by omega
  | N + 1, i, h => by
    have hl := missTo_len l0 l1 N
    have hl2 := missTo_len l0 l1 (N + 1)
    rw [rd_of_lt _ i (by omega)]
    by_cases e : i = N
    · subst e
      simp only [missTo]
      rw [List.getElem_append_right (by omega)]
      simp [hl]
    · have ih := missTo_get l0 l1 N i (by omega)
      rw [rd_of_lt _ i (by omega)] at ih
      simp only [missTo]
      rw [List.getElem_append_left (by omega)]
      exact ih
theorem miss_ev {n : Nat} {G SE : List Int} {m : Int} (C : Case n G SE m) (code EX FO : List Int) (hm : spec_A2Mark.f code (n : Int) = some m) (he : EX.length = G.length) (hf : FO.length = G.length)
    (hb : ∀ i : Nat, i < G.length → (0 ≤ rd EX (i : Int) ∧ rd EX (i : Int) ≤ 1000) ∧ (0 ≤ rd FO (i : Int) ∧ rd FO (i : Int) ≤ 1000)) (d : Nat) : ∀ i : Nat, i + d = G.length →
    Ev (fun q => laws_FnSorted.l3 q code (n : Int) G EX FO (missTo EX FO G.length) (i : Int)) true := by
  have gv : ∀ x ∈ G, 0 ≤ x ∧ x < 65536 := fun x hx => ⟨(C.gb x hx).1, by have := (C.gb x hx).2; omega⟩
  have hgl := C.gl
  have hmb := C.mb
  have ml := missTo_len EX FO G.length
  induction d with
  | zero =>
    intro i hi
    obtain rfl : i = G.length := by omega
    obtain ⟨hs, hi⟩ := LikelyLost_both (n : Int) G m (by omega) gv ⟨by omega, by omega⟩
    have e : likelyLost (n : Int) G m = ((likely G m G.length).2, 0) := by
      unfold likelyLost codeSeen
      rw [if_pos C.mo, if_pos C.gc]
    rw [e] at hs hi
    have ll := likely_len G m G.length
    refine Ev.step (fun q => by rw [laws_FnSorted.l3]) (Ev.ite_f (by omega) ?_)
    refine Ev.bind (Ev.const hm) (Ev.bind hi (Ev.bind hs (Ev.ite_t rfl (Ev.ite_t rfl (Ev.bind (sameInt_ev _ (by dsimp only; omega)) ?_)))))
    refine Ev.step (fun q => by rw [laws_FnSorted.j6]) (Ev.ite_f (by decide) ?_)
    exact least_ev C G.length 0 (by omega)
  | succ d ih =>
    intro i hi
    have o := hb i (by omega)
    have next := ih (i + 1) (by omega)
    have eq : rd (missTo EX FO G.length) (i : Int) = mx 0 (wrap64 (rd EX (i : Int) - rd FO (i : Int))) := by
      rw [missTo_get EX FO G.length i (by omega), w64 _ (by omega) (by omega)]
      unfold mx lackOne
      (repeat' split) <;> omega
    refine Ev.step (fun q => by rw [laws_FnSorted.l3]) (Ev.ite_t (by omega) (Ev.ite_t (by omega) (Ev.ite_t (by omega) (Ev.ite_t (by omega) (Ev.ite_t eq ?_)))))
    rw [next_w i (by omega)]
    exact next
theorem rest_ev {n : Nat} {G SE : List Int} {m : Int} (C : Case n G SE m) (code EX FO : List Int) (hm : spec_A2Mark.f code (n : Int) = some m) (he : EX.length = G.length) (hf : FO.length = G.length)
    (hb : ∀ i : Nat, i < G.length → (0 ≤ rd EX (i : Int) ∧ rd EX (i : Int) ≤ 1000) ∧ (0 ≤ rd FO (i : Int) ∧ rd FO (i : Int) ≤ 1000)) (d : Nat) : ∀ i : Nat, i + d = (sortTo G SE SE.length).2.length →
    Ev (fun q => laws_FnSorted.l2 q code (n : Int) G SE (sortTo G SE SE.length).2 (SE.length : Int) EX FO (i : Int)) true := by
  have gv : ∀ x ∈ G, 0 ≤ x ∧ x < 65536 := fun x hx => ⟨(C.gb x hx).1, by have := (C.gb x hx).2; omega⟩
  have hgl := C.gl
  have hsl := C.sl
  have S := sortedSo G SE SE.length
  have hsum := S.sum
  induction d with
  | zero =>
    intro i hi
    obtain rfl : i = (sortTo G SE SE.length).2.length := by omega
    have em : missing EX FO = (missTo EX FO G.length, 0) := by
      unfold missing
      rw [if_pos (by omega), missed_all EX FO EX.length 0 (fun j _ hj => hb j (by omega)), Nat.zero_add, he]
    have hi := missImpl_ev EX FO
    have hs := missSpec_ev EX FO
    rw [em] at hi hs
    have ml := missTo_len EX FO G.length
    refine Ev.step (fun q => by rw [laws_FnSorted.l2]) (Ev.ite_f (by omega) ?_)
    refine Ev.bind hi (Ev.bind hs (Ev.ite_t rfl (Ev.ite_t rfl (Ev.ite_t rfl (Ev.bind (sameInt_ev _ (by dsimp only; omega)) (Ev.ite_t rfl ?_))))))
    dsimp only
    rw [ml, bne_self_eq_false]
    refine Ev.step (fun q => by rw [laws_FnSorted.j4]) (Ev.ite_f (by decide) ?_)
    exact miss_ev C code EX FO hm he hf hb G.length 0 (by omega)
  | succ d ih =>
    intro i hi
    have next := ih (i + 1) (by omega)
    obtain ⟨⟨x0, x1⟩, x2⟩ := S.rest _ (rd_in (sortTo G SE SE.length).2 i (by omega))
    generalize hx : rd (sortTo G SE SE.length).2 (i : Int) = x at x0 x1 x2
    obtain ⟨j, rfl⟩ := Int.eq_ofNat_of_zero_le x0
    have hr := readAny_ev (n : Int) G (rd SE (j : Int)) (by omega) gv C.gc (C.so _ (rd_in SE j (by omega))) C.ga
    rw [if_pos x2] at hr
    refine Ev.step (fun q => by rw [laws_FnSorted.l2]) (Ev.ite_t (by omega) (Ev.ite_t (by omega) ?_))
    rw [hx]
    refine Ev.ite_t (by omega) (Ev.ite_t (by omega) (Ev.bind hr (Ev.ite_t rfl ?_)))
    rw [next_w i (by omega)]
    exact next
theorem rows_ev {n : Nat} {G SE : List Int} {m : Int} (C : Case n G SE m) (code more : List Int) (e : Nat → Int) (hm : spec_A2Mark.f code (n : Int) = some m) (hat : ∀ k : Nat, k ≤ 100 → laws_a2At.f more (k : Int) 4 = some (e k) ∧ 0 ≤ e k ∧ e k < 4) (d : Nat) : ∀ k : Nat, k + d = G.length →
    Ev (fun q => laws_FnSorted.l0 q code more (n : Int) G SE (sortTo G SE SE.length).1 (sortTo G SE SE.length).2 (((sortTo G SE SE.length).2.length + lenTo (sortTo G SE SE.length).1 k : Nat) : Int) ((List.range k).map e) ((List.range k).map fun j => (((sortTo G SE SE.length).1.getD j []).length : Int)) (k : Int)) true := by
  have gv : ∀ x ∈ G, 0 ≤ x ∧ x < 65536 := fun x hx => ⟨(C.gb x hx).1, by have := (C.gb x hx).2; omega⟩
  have hgl := C.gl
  have hsl := C.sl
  have S := sortedSo G SE SE.length
  have hsum := S.sum
  have hlen := sortTo_len G SE SE.length
  generalize hLL : (sortTo G SE SE.length).1 = LL at hsum hlen
  have hrow : ∀ k : Nat, k < G.length → (LL.getD k []).Pairwise (fun a b => a < b) ∧ ∀ x ∈ LL.getD k [], (0 ≤ x ∧ x < (SE.length : Int)) ∧ readAt G (rd SE x) = (k : Int) := by
    intro k hk
    have := S.row k hk
    rw [hLL] at this
    exact this
  induction d with
  | zero =>
    intro k hk
    obtain rfl : k = G.length := by omega
    refine Ev.step (fun q => by rw [laws_FnSorted.l0]) (Ev.ite_f (by omega) ?_)
    have ea := lenTo_all LL
    rw [hlen] at ea
    rw [ea, show (sortTo G SE SE.length).2.length + LL.flatten.length = SE.length by omega]
    refine rest_ev C code _ _ hm (by simp) (by simp) (fun i hi => ?_) (sortTo G SE SE.length).2.length 0 (by omega)
    have r1 : rd ((List.range G.length).map e) (i : Int) = e i := by rw [rd_of_lt _ i (by simpa using hi)]; simp
    have r2 : rd ((List.range G.length).map fun j => ((LL.getD j []).length : Int)) (i : Int) = ((LL.getD i []).length : Int) := by rw [rd_of_lt _ i (by simpa using hi)]; simp
    have h1 := (hat i (by omega)).2
    have h2 := row_le LL i
    rw [r1, r2]
    exact ⟨⟨by omega, by omega⟩, ⟨by omega, by omega⟩⟩
  | succ d ih =>
    intro k hk
    have next := ih (k + 1) (by omega)
    have h1 := hat k (by omega)
    have hrl := row_le LL k
    have hle := lenTo_le LL (LL.length - k) k (by omega)
    have hs := lenTo_succ LL k (by omega)
    obtain ⟨hinc, hmem⟩ := hrow k (by omega)
    -- the marks of a row
    have inner : ∀ (d i : Nat), i + d = (LL.getD k []).length → ∀ (acc : Int) (EX FO : List Int), Ev (fun q => laws_FnSorted.l0 q code more (n : Int) G SE LL (sortTo G SE SE.length).2 acc EX FO ((k + 1 : Nat) : Int)) true →
        Ev (fun q => laws_FnSorted.l1 q code more (n : Int) G SE LL (sortTo G SE SE.length).2 acc EX FO (k : Int) (i : Int)) true := by
      intro d
      induction d with
      | zero =>
        intro i hi acc EX FO hn
        refine Ev.step (fun q => by rw [laws_FnSorted.l1]) (Ev.ite_t (by omega) (Ev.ite_t (by omega) (Ev.ite_f (by rw [rd6]; omega) ?_)))
        rw [next_w k (by omega)]
        exact hn
      | succ d ih2 =>
        intro i hi acc EX FO hn
        have nx := ih2 (i + 1) (by omega) acc EX FO hn
        obtain ⟨⟨x0, x1⟩, x2⟩ := hmem _ (rd_in (LL.getD k []) i (by omega))
        obtain ⟨j, hj⟩ := Int.eq_ofNat_of_zero_le x0
        rw [hj] at x1 x2
        have hr := readAny_ev (n : Int) G (rd SE (j : Int)) (by omega) gv C.gc (C.so _ (rd_in SE j (by omega))) C.ga
        rw [x2, if_neg (by omega)] at hr
        refine Ev.step (fun q => by rw [laws_FnSorted.l1]) (Ev.ite_t (by omega) (Ev.ite_t (by omega) ?_))
        rw [rd6, hj]
        refine Ev.ite_t (by omega) (Ev.ite_t (by omega) (Ev.ite_t (by omega) (Ev.ite_t (by omega) (Ev.bind hr (Ev.ite_t rfl (Ev.ite_t rfl ?_))))))
        rw [next_w i (by omega)]
        by_cases z : 0 < i
        · have hp : wrap64 ((i : Int) - 1) = ((i - 1 : Nat) : Int) := by rw [w64 _ (by omega) (by omega)]; omega
          have hdec := List.pairwise_iff_getElem.mp hinc (i - 1) i (by omega) (by omega) (by omega)
          rw [← rd_of_lt _ i (by omega), ← rd_of_lt _ (i - 1) (by omega), hj] at hdec
          rw [hp]
          exact Ev.ite_t (by omega) (Ev.ite_t (by omega) (Ev.ite_t (by omega) (Ev.ite_f (by omega) nx)))
        · exact Ev.ite_f (by omega) nx
    refine Ev.step (fun q => by rw [laws_FnSorted.l0]) (Ev.ite_t (by omega) (Ev.ite_t (by omega) (Ev.bind (Ev.const h1.1) (Ev.ite_t (show ((List.range k).map e).length < 17592186044416 by rw [List.length_map, List.length_range]; omega) (Ev.ite_t (show ((List.range k).map fun j => ((LL.getD j []).length : Int)).length < 17592186044416 by rw [List.length_map, List.length_range]; omega) ?_)))))
    rw [rd6, w64 _ (by omega) (by omega)]
    refine inner (LL.getD k []).length 0 (by omega) _ _ _ ?_
    rw [List.range_succ, List.map_append, List.map_append] at next
    rw [show (((sortTo G SE SE.length).2.length + lenTo LL k : Nat) : Int) + ((LL.getD k []).length : Int) = (((sortTo G SE SE.length).2.length + lenTo LL (k + 1) : Nat) : Int) by omega]
    exact next
theorem FnSorted : laws_FnSorted.Pure := by
  intro l0 l1 _ _ hw0 _ _ hw1
  refine Ev.get ?_
  cases hlong : decide ((l0.length : Int) > 3000 ∨ (l1.length : Int) > 3000) with
  | true =>
    have h := of_decide_eq_true hlong
    refine Ev.bind (a := true) (Ev.const ?_) (Ev.ite_t rfl (Ev.const rfl))
    unfold laws_a2Long.f
    by_cases c : (l0.length : Int) > 3000
    · rw [if_pos c]
    · rw [if_neg c, decide_eq_true (h.resolve_left c)]
  | false =>
    have h := of_decide_eq_false hlong
    refine Ev.bind (a := false) (Ev.const ?_) (Ev.ite_f (by decide) ?_)
    · unfold laws_a2Long.f
      rw [if_neg (by omega), decide_eq_false (by omega)]
    obtain ⟨t, ht, hat⟩ := at_f l0 0 5 (by omega) (by omega) (by omega) hw0
    obtain ⟨t', rfl⟩ : ∃ q : Nat, t = (q : Int) := Int.eq_ofNat_of_zero_le hat.1
    obtain ⟨u, hu, hau⟩ := at_f l0 1 8 (by omega) (by omega) (by omega) hw0
    obtain ⟨n, hnt⟩ : ∃ n : Nat, n = t' + 3 := ⟨_, rfl⟩
    have hn2 : wrap64 (3 + (t' : Int)) = (n : Int) := by rw [w64 _ (by omega) (by omega)]; omega
    obtain ⟨most, hmost⟩ : ∃ most : Int, most = 1 + u := ⟨_, rfl⟩
    have hm2 : wrap64 (1 + u) = most := by rw [w64 _ (by omega) (by omega), hmost]
    have hB : 1 ≤ n ∧ n ≤ 12 := by omega
    have hpn := pow_nat n
    have hp7 : 2 ^ n ≤ 2 ^ 7 := Nat.pow_le_pow_right (by decide) (by omega)
    refine Ev.bind (Ev.const ht) (Ev.bind (Ev.const hu) ?_)
    rw [hn2, hm2]
    have T := greedy_all n most (by omega)
    have gm : greedyMarks (n : Int) most = (greedy most (2 ^ n) [], 0) := by
      unfold greedyMarks
      rw [if_pos (by omega), if_pos (by omega), Int.toNat_natCast]
    have gS := specGreedyMarks_ev (n : Int) most
    rw [gm] at gS
    obtain ⟨SE, hSE, hSl, hSb⟩ := a2marks_ev l1 n (by omega)
    obtain ⟨m, hm, hm0, hm1⟩ := a2mark_f l0 n (by omega)
    generalize greedy most (2 ^ n) [] = G at T gS
    have gl : G.length ≤ 40 := by have := T.short; omega
    have gb : ∀ x ∈ G, 0 ≤ x ∧ x < 2 ^ n := fun x hx => ⟨by have := (T.bd x hx).1; omega, (T.bd x hx).2⟩
    have g1 : 1 ≤ G.length := by
      rcases Nat.eq_zero_or_pos G.length with z | z
      · exfalso
        have hf := T.full (by omega) 0 (Nat.le_refl _) (by have : (0 : Int) < 2 ^ n := Int.pow_pos (by decide); omega)
        rw [List.eq_nil_of_length_eq_zero z] at hf
        cases hf
      · exact z
    have C : Case n G SE m := ⟨⟨by omega, by omega⟩, ⟨g1, gl⟩, fun x hx => ⟨(gb x hx).1, by have := (gb x hx).2; omega⟩, listOk n hB G gl gb, apart_of T.apart, hSl, fun x hx => okFew n hB x (hSb x hx).1 (hSb x hx).2, ⟨hm0, by omega⟩, okFew n hB m hm0 hm1⟩
    have gv : ∀ x ∈ G, 0 ≤ x ∧ x < 65536 := fun x hx => ⟨(C.gb x hx).1, by have := (C.gb x hx).2; omega⟩
    obtain ⟨sS, sI⟩ := sortGood_ev (n : Int) G SE (by omega) (by omega) gv C.gc (listOk n hB SE (by omega) hSb) C.ga
    have hlen := sortTo_len G SE SE.length
    have S := sortedSo G SE SE.length
    have hsum := S.sum
    have hat4 : ∀ k : Nat, k ≤ 100 → laws_a2At.f l1 (k : Int) 4 = some ((laws_a2At.f l1 (k : Int) 4).getD 0) ∧ 0 ≤ (laws_a2At.f l1 (k : Int) 4).getD 0 ∧ (laws_a2At.f l1 (k : Int) 4).getD 0 < 4 := by
      intro k hk
      obtain ⟨v, hv, hv0, hv1⟩ := at_f l1 k 4 (by omega) (by omega) (by omega) hw1
      rw [hv]
      exact ⟨rfl, hv0, hv1⟩
    have main := rows_ev C l0 l1 (fun k => (laws_a2At.f l1 (k : Int) 4).getD 0) hm hat4 G.length 0 (by omega)
    refine Ev.bind gS (Ev.bind hSE (Ev.bind sI (Ev.bind sS (Ev.ite_t rfl (Ev.ite_t rfl (Ev.ite_t rfl (Ev.bind (sameLists_ev _ (by dsimp only; omega) (by dsimp only; omega)) (Ev.ite_t rfl (Ev.ite_t (by dsimp only; omega) (Ev.bind (sameInt_ev _ (by dsimp only; omega)) (Ev.ite_t rfl ?_)))))))))))
    dsimp only
    rw [decide_eq_false (by omega)]
    refine Ev.step (fun q => by rw [laws_FnSorted.j0]) (Ev.ite_f (by decide) ?_)
    exact main
end Go.Proofs.Ytedbegibkcegnac.Pure
