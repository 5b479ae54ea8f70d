import Derived.Test.YtedbegibkcegnaczFSortedECloneMark
import Derived.Test.YtedbegibkcegnaczFSortedEMLem2
import Derived.Test.YtedbegibkcegnaczFSortedERead
import Derived.Test.YtedbegibkcegnaczFSortedM0
import Derived.Test.YtedbegibkcegnaczFSortedM1
import Derived.Test.YtedbegibkcegnaczFSortedM3
import Derived.Test.YtedbegibkcegnaczFSortedEPredMark
import Derived.Test.YtedbegibkcegnaczFSortedM8
import Derived.Test.YtedbegibkcegnaczFSortedM2
import Derived.Test.YtedbegibkcegnaczFSortedEAreWithin
section
namespace Go.Proofs.Ytedbegibkcegnac.M
open Go.RowKit Go.Proofs.YtedbegibkcegnacW.PrintWords Go.Proofs.YtedbegibkcegnacW.PrintLast Go.Proofs.YtedbegibkcegnacW.PrintMore
attribute [local go_sem] max2_int min2_int max_two min_two max_three min_three max_four min_four
set_option linter.unusedVariables false
set_option linter.unusedSimpArgs false
def firstNZ : List Int → Int
  | [] => 0
  | x :: r => if x = 0 then firstNZ r else x
theorem firstOf_ev (l : List Int) (hm : l.length ≤ 4611686018427387904) : Ev (fun k => impl_firstOf.f k l) (firstNZ l) := by
  refine Ev.loop (L := fun k s => impl_firstOf.l0 k l (l.length : Int) s) (fun s d => ∃ i : Nat, i + d = l.length ∧ s = (i : Int) ∧ firstNZ (l.drop i) = firstNZ l) ?_ l.length 0 ⟨0, by omega, rfl, rfl⟩
  rintro s d ⟨i, hd, rfl, hf⟩
  by_cases c : i < l.length
  · have e : l.drop i = l[i] :: l.drop (i + 1) := List.drop_eq_getElem_cons c
    by_cases q : l[i] = 0
    · refine .inr ⟨((i + 1 : Nat) : Int), d - 1, by omega, ⟨i + 1, by omega, rfl, ?_⟩, 0, fun k _ => ?_⟩
      · rw [← hf, e, firstNZ, if_pos q]
      · rw [impl_firstOf.l0]
        rw [if_pos (by omega), if_pos (by omega), if_pos (by omega), rd_of_lt l i c, if_pos q, w64 _ (by omega) (by omega)]
        rfl
    · refine .inl ⟨0, fun k _ => ?_⟩
      rw [← hf, e, firstNZ, if_neg q]
      rw [impl_firstOf.l0]
      rw [if_pos (by omega), if_pos (by omega), if_pos (by omega), rd_of_lt l i c, if_neg q]
  · refine .inl ⟨0, fun k _ => ?_⟩
    rw [← hf, List.drop_eq_nil_of_le (by omega)]
    rw [impl_firstOf.l0]
    rw [if_neg (by omega)]
    rfl
def listCode (n : Int) (l : List Int) : Int := if 1 ≤ n ∧ n ≤ 12 then (if l.any (fun m => !okMark n m) = true then 1 else if l.length > 40 then 3 else 0) else 1
theorem few_f (l : List Int) : impl_fewMarks.f l = some (if l.length ≤ 40 then 0 else 3) := by
  unfold impl_fewMarks.f
  rw [unless_d]
  by_cases c : l.length ≤ 40
  · rw [if_pos (by omega), if_pos c]; rfl
  · rw [if_neg (by omega), if_neg c]; rfl
theorem implCode_f (n : Int) (l : List Int) : impl_markCode.f n l = some (if 1 ≤ n ∧ n ≤ 12 then (if l.any (fun m => !okMark n m) = true then 1 else 0) else 1) := rfl
theorem specList_ev (n : Int) (l : List Int) (hm : l.length ≤ 4611686018427387904) : Ev (fun k => spec_l06List.f k n l) (listCode n l) := by
  by_cases c : 1 ≤ n ∧ n ≤ 12
  · refine Ev.congr (f := fun k => spec_l06List.l0 k n l 0) (fun k => by unfold spec_l06List.f; rw [many_f, decide_eq_true c]; rfl) ?_
    refine Ev.loop (L := fun k s => spec_l06List.l0 k n l s) (fun s d => ∃ i : Nat, i + d = l.length ∧ s = (i : Int) ∧ (l.drop i).any (fun m => !okMark n m) = l.any (fun m => !okMark n m)) ?_ l.length 0 ⟨0, by omega, rfl, rfl⟩
    rintro s d ⟨i, hd, rfl, hf⟩
    by_cases h : i < l.length
    · have e : l.drop i = l[i] :: l.drop (i + 1) := List.drop_eq_getElem_cons h
      cases q : okMark n l[i] with
      | true =>
        refine .inr ⟨((i + 1 : Nat) : Int), d - 1, by omega, ⟨i + 1, by omega, rfl, ?_⟩, 0, fun k _ => ?_⟩
        · rw [← hf, e, List.any_cons, q]; rfl
        · rw [spec_l06List.l0]
          rw [if_pos (by omega), if_pos (by omega), rd_of_lt l i h, ok_f, q, w64 _ (by omega) (by omega)]
          rfl
      | false =>
        refine .inl ⟨0, fun k _ => ?_⟩
        have a : l.any (fun m => !okMark n m) = true := by rw [← hf, e, List.any_cons, q]; rfl
        unfold listCode
        rw [if_pos c, if_pos a]
        rw [spec_l06List.l0]
        rw [if_pos (by omega), if_pos (by omega), rd_of_lt l i h, ok_f, q]
        rfl
    · refine .inl ⟨0, fun k _ => ?_⟩
      have a : l.any (fun m => !okMark n m) = false := by rw [← hf, List.drop_eq_nil_of_le (by omega)]; rfl
      unfold listCode
      rw [if_pos c, a, if_neg (by decide)]
      rw [spec_l06List.l0]
      rw [if_neg (by omega)]
      by_cases f : l.length > 40
      · rw [if_pos (by omega), if_pos f]
      · rw [if_neg (by omega), if_neg f]
  · refine Ev.fixed (fun k => ?_)
    unfold spec_l06List.f listCode
    rw [many_f, decide_eq_false c, if_neg c]
    rfl
theorem listCode_ok (n : Int) (l : List Int) (h : listCode n l = 0) : 1 ≤ n ∧ n ≤ 12 ∧ l.length ≤ 40 ∧ ∀ m ∈ l, okMark n m = true := by
  unfold listCode at h
  by_cases c : 1 ≤ n ∧ n ≤ 12
  · rw [if_pos c] at h
    cases d : l.any (fun m => !okMark n m) with
    | true => rw [d, if_pos rfl] at h; omega
    | false =>
      rw [d, if_neg (by decide)] at h
      by_cases f : l.length > 40
      · rw [if_pos f] at h; omega
      · rw [List.any_eq_false] at d
        exact ⟨c.1, c.2, by omega, fun m hm => by simpa using d m hm⟩
  · rw [if_neg c] at h; omega
theorem has_ev (l : List Int) (x : Int) (hm : l.length ≤ 4611686018427387904) : Ev (fun k => spec_l06Has.f k l x) (l.contains x) := by
  refine Ev.loop (L := fun k s => spec_l06Has.l0 k l x s) (fun s d => ∃ i : Nat, i + d = l.length ∧ s = (i : Int) ∧ (l.drop i).contains x = l.contains x) ?_ l.length 0 ⟨0, by omega, rfl, rfl⟩
  rintro s d ⟨i, hd, rfl, hf⟩
  by_cases c : i < l.length
  · have e : l.drop i = l[i] :: l.drop (i + 1) := List.drop_eq_getElem_cons c
    by_cases q : l[i] = x
    · refine .inl ⟨0, fun k _ => ?_⟩
      have a : l.contains x = true := by rw [← hf, e, List.contains_cons, q, beq_self_eq_true]; rfl
      rw [a]
      rw [spec_l06Has.l0]
      rw [if_pos (by omega), if_pos (by omega), rd_of_lt l i c, if_pos q]
    · refine .inr ⟨((i + 1 : Nat) : Int), d - 1, by omega, ⟨i + 1, by omega, rfl, ?_⟩, 0, fun k _ => ?_⟩
      · rw [← hf, e, List.contains_cons, beq_eq_false_iff_ne.mpr (fun h => q h.symm)]; rfl
      · rw [spec_l06Has.l0]
        rw [if_pos (by omega), if_pos (by omega), rd_of_lt l i c, if_neg q, w64 _ (by omega) (by omega)]
        rfl
  · refine .inl ⟨0, fun k _ => ?_⟩
    have a : l.contains x = false := by rw [← hf, List.drop_eq_nil_of_le (by omega)]; rfl
    rw [a]
    rw [spec_l06Has.l0]
    rw [if_neg (by omega)]
def meets (a b : Int) : Bool := (seenOf a 12).any fun m => (seenOf b 12).contains m
theorem apartLoop_ev (x y : List Int) (hx : x.length ≤ 1000) (hy : y.length ≤ 1000) : Ev (fun k => spec_l06Apart.l0 k x y 0) (!(x.any fun m => y.contains m)) := by
  refine Ev.loop (L := fun k s => spec_l06Apart.l0 k x y s) (fun s d => ∃ i : Nat, i + d = x.length ∧ s = (i : Int) ∧ (x.drop i).any (fun m => y.contains m) = x.any (fun m => y.contains m)) ?_ x.length 0 ⟨0, by omega, rfl, rfl⟩
  rintro s d ⟨i, hd, rfl, hf⟩
  by_cases c : i < x.length
  · have e : x.drop i = x[i] :: x.drop (i + 1) := List.drop_eq_getElem_cons c
    obtain ⟨K, hK⟩ := has_ev y x[i] (by omega)
    cases q : y.contains x[i] with
    | true =>
      refine .inl ⟨K, fun k hk => ?_⟩
      have a : x.any (fun m => y.contains m) = true := by rw [← hf, e, List.any_cons, q]; rfl
      have g := hK k hk
      rw [q] at g
      rw [a]
      rw [spec_l06Apart.l0]
      rw [if_pos (by omega), if_pos (by omega), rd_of_lt x i c]
      dsimp only at g
      rw [g]
      rfl
    | false =>
      refine .inr ⟨((i + 1 : Nat) : Int), d - 1, by omega, ⟨i + 1, by omega, rfl, ?_⟩, K, fun k hk => ?_⟩
      · rw [← hf, e, List.any_cons, q]; rfl
      · have g := hK k hk
        rw [q] at g
        dsimp only at g ⊢
        rw [spec_l06Apart.l0]
        rw [if_pos (by omega), if_pos (by omega), rd_of_lt x i c, g, w64 _ (by omega) (by omega)]
        rfl
  · refine .inl ⟨0, fun k _ => ?_⟩
    have a : x.any (fun m => y.contains m) = false := by rw [← hf, List.drop_eq_nil_of_le (by omega)]; rfl
    rw [a]
    rw [spec_l06Apart.l0]
    rw [if_neg (by omega)]
    rfl
theorem apart_ev (a b : Int) (ha : 0 ≤ a) (ha' : a < 4096) (hb : 0 ≤ b) (hb' : b < 4096) : Ev (fun k => spec_l06Apart.f k a b) (!meets a b) := by
  have la := seen_len a 12
  have lb := seen_len b 12
  refine Ev.bind (a := seenOf a 12) ?_ (Ev.bind (a := seenOf b 12) ?_ (apartLoop_ev _ _ (by omega) (by omega)))
  · rw [← seen_12 a ha ha']; exact specSeen_ev a ha
  · rw [← seen_12 b hb hb']; exact specSeen_ev b hb
theorem clash_ev (a b : Int) (ha : 0 ≤ a) (ha' : a < 65536) (hb : 0 ≤ b) (hb' : b < 65536) : Ev (fun k => impl_clash.f k a b) (meets a b) :=
  Ev.bind (implLost_ev a ha ha') (Ev.bind (implLost_ev b hb hb') (Ev.const rfl))
def Found (l : List Int) (i : Nat) (r : Int × Int) (q : Int × Int × Bool) : Prop :=
  (r = (-1, -1) ∧ q = (0, 0, false) ∧ ∀ a b : Nat, i ≤ a → (hab : a < b) → (h : b < l.length) → meets (l[a]'(by omega)) l[b] = false) ∨
  ∃ a b : Nat, ∃ hab : a < b, ∃ h : b < l.length, r = ((a : Int), (b : Int)) ∧ q = ((a : Int), (b : Int), true) ∧ meets (l[a]'(by omega)) l[b] = true
theorem search_row (l : List Int) (hl : l.length ≤ 1000) (hv : ∀ m ∈ l, 0 ≤ m ∧ m < 4096) (i : Nat) (hi : i < l.length)
    (next : ∃ r q, Found l (i + 1) r q ∧ Ev (fun k => spec_l06Clash.l0 k l ((i + 1 : Nat) : Int)) r ∧ Ev (fun k => impl_firstClash.l0 k l l (l.length : Int) ((i + 1 : Nat) : Int)) q) (d : Nat) :
    ∀ j : Nat, i < j → j + d = l.length → (∀ b : Nat, i < b → b < j → (h : b < l.length) → meets l[i] l[b] = false) →
    ∃ r q, Found l i r q ∧ Ev (fun k => spec_l06Clash.l1 k l (i : Int) (j : Int)) r ∧ Ev (fun k => impl_firstClash.l1 k l (i : Int) l[i] (j : Int) l (l.length : Int) (i : Int)) q := by
  induction d with
  | zero =>
    intro j hij hj hb
    obtain ⟨r, q, hF, hr, hq⟩ := next
    refine ⟨r, q, ?_, ?_, ?_⟩
    · rcases hF with ⟨e1, e2, e3⟩ | h
      · refine .inl ⟨e1, e2, fun a b ha hab h => ?_⟩
        by_cases c : a = i
        · subst c; exact hb b hab (by omega) h
        · exact e3 a b (by omega) hab h
      · exact .inr h
    · refine Ev.step (f := fun k => spec_l06Clash.l0 k l ((i + 1 : Nat) : Int)) (fun k => ?_) hr
      rw [spec_l06Clash.l1]
      rw [if_neg (by omega), w64 _ (by omega) (by omega)]
      rfl
    · refine Ev.step (f := fun k => impl_firstClash.l0 k l l (l.length : Int) ((i + 1 : Nat) : Int)) (fun k => ?_) hq
      rw [impl_firstClash.l1]
      rw [if_neg (by omega), w64 _ (by omega) (by omega)]
      rfl
  | succ d ih =>
    intro j hij hj hb
    have hjl : j < l.length := by omega
    have vi := hv l[i] (List.getElem_mem hi)
    have vj := hv l[j] (List.getElem_mem hjl)
    have eA := apart_ev l[i] l[j] vi.1 vi.2 vj.1 vj.2
    have eC := clash_ev l[i] l[j] vi.1 (by omega) vj.1 (by omega)
    cases m : meets l[i] l[j] with
    | true =>
      rw [m] at eA eC
      refine ⟨((i : Int), (j : Int)), ((i : Int), (j : Int), true), .inr ⟨i, j, hij, hjl, rfl, rfl, m⟩, ?_, ?_⟩
      · refine Ev.step (f := fun k => (spec_l06Apart.f k l[i] l[j]).bind fun t => if t = true then spec_l06Clash.l1 k l (i : Int) (wrap64 ((j : Int) + 1)) else some ((i : Int), (j : Int))) (fun k => ?_) (Ev.bind eA (Ev.ite_f (by decide) (Ev.const rfl)))
        rw [spec_l06Clash.l1]
        rw [if_pos (by omega), if_pos (by omega), if_pos (by omega), if_pos (by omega), rd_of_lt l i hi, rd_of_lt l j hjl]
      · refine Ev.step (f := fun k => (impl_clash.f k l[i] l[j]).bind fun t => if t = true then some ((i : Int), (j : Int), true) else impl_firstClash.l1 k l (i : Int) l[i] (wrap64 ((j : Int) + 1)) l (l.length : Int) (i : Int)) (fun k => ?_) (Ev.bind eC (Ev.ite_t rfl (Ev.const rfl)))
        rw [impl_firstClash.l1]
        rw [if_pos (by omega), if_pos (by omega), rd_of_lt l j hjl]
    | false =>
      rw [m] at eA eC
      obtain ⟨r, q, hF, hr, hq⟩ := ih (j + 1) (by omega) (by omega) (fun b h1 h2 h => by
        by_cases c : b = j
        · subst c; exact m
        · exact hb b h1 (by omega) h)
      have e : wrap64 ((j : Int) + 1) = ((j + 1 : Nat) : Int) := by rw [w64 _ (by omega) (by omega)]; rfl
      refine ⟨r, q, hF, ?_, ?_⟩
      · refine Ev.step (f := fun k => (spec_l06Apart.f k l[i] l[j]).bind fun t => if t = true then spec_l06Clash.l1 k l (i : Int) ((j + 1 : Nat) : Int) else some ((i : Int), (j : Int))) (fun k => ?_) (Ev.bind eA (Ev.ite_t rfl hr))
        rw [spec_l06Clash.l1]
        rw [if_pos (by omega), if_pos (by omega), if_pos (by omega), if_pos (by omega), rd_of_lt l i hi, rd_of_lt l j hjl, e]
      · refine Ev.step (f := fun k => (impl_clash.f k l[i] l[j]).bind fun t => if t = true then some ((i : Int), (j : Int), true) else impl_firstClash.l1 k l (i : Int) l[i] ((j + 1 : Nat) : Int) l (l.length : Int) (i : Int)) (fun k => ?_) (Ev.bind eC (Ev.ite_f (by decide) hq))
        rw [impl_firstClash.l1]
        rw [if_pos (by omega), if_pos (by omega), rd_of_lt l j hjl, e]
theorem search_from (l : List Int) (hl : l.length ≤ 1000) (hv : ∀ m ∈ l, 0 ≤ m ∧ m < 4096) (d : Nat) : ∀ i : Nat, i + d = l.length →
    ∃ r q, Found l i r q ∧ Ev (fun k => spec_l06Clash.l0 k l (i : Int)) r ∧ Ev (fun k => impl_firstClash.l0 k l l (l.length : Int) (i : Int)) q := by
  induction d with
  | zero =>
    intro i h
    refine ⟨(-1, -1), (0, 0, false), .inl ⟨rfl, rfl, fun a b ha hab h => by omega⟩, Ev.step (f := fun _ => some (-1, -1)) (fun k => ?_) (Ev.const rfl), Ev.step (f := fun _ => some (0, 0, false)) (fun k => ?_) (Ev.const rfl)⟩
    · rw [spec_l06Clash.l0]
      rw [if_neg (by omega)]
    · rw [impl_firstClash.l0]
      rw [if_neg (by omega)]
  | succ d ih =>
    intro i h
    have hi : i < l.length := by omega
    have e : wrap64 ((i : Int) + 1) = ((i + 1 : Nat) : Int) := by rw [w64 _ (by omega) (by omega)]; rfl
    obtain ⟨r, q, hF, hr, hq⟩ := search_row l hl hv i hi (ih (i + 1) (by omega)) d (i + 1) (by omega) (by omega) (fun b h1 h2 h => by omega)
    refine ⟨r, q, hF, ?_, ?_⟩
    · refine Ev.step (f := fun k => spec_l06Clash.l1 k l (i : Int) ((i + 1 : Nat) : Int)) (fun k => ?_) hr
      rw [spec_l06Clash.l0]
      rw [if_pos (by omega), e]
    · refine Ev.step (f := fun k => impl_firstClash.l1 k l (i : Int) l[i] ((i + 1 : Nat) : Int) l (l.length : Int) (i : Int)) (fun k => ?_) hq
      rw [impl_firstClash.l0]
      rw [if_pos (by omega), if_pos (by omega), if_pos (by omega), rd_of_lt l i hi, e]
theorem search_both (l : List Int) (hl : l.length ≤ 1000) (hv : ∀ m ∈ l, 0 ≤ m ∧ m < 4096) :
    ∃ r q, Found l 0 r q ∧ Ev (fun k => spec_l06Clash.f k l) r ∧ Ev (fun k => impl_firstClash.f k l) q := search_from l hl hv l.length 0 (by omega)
end Go.Proofs.Ytedbegibkcegnac.M
end
section
namespace Go.Proofs.Ytedbegibkcegnac.M
open Go.RowKit Go.Proofs.YtedbegibkcegnacW.PrintWords Go.Proofs.YtedbegibkcegnacW.PrintLast Go.Proofs.YtedbegibkcegnacW.PrintMore
attribute [local go_sem] max2_int min2_int max_two min_two max_three min_three max_four min_four
set_option linter.unusedVariables false
set_option linter.unusedSimpArgs false
def Apart (l : List Int) : Prop := ∀ a b : Nat, (hab : a < b) → (h : b < l.length) → meets (l[a]'(by omega)) l[b] = false
def Meeting (l : List Int) (a b : Nat) : Prop := ∃ hab : a < b, ∃ h : b < l.length, meets (l[a]'(by omega)) l[b] = true
theorem found_split (l : List Int) (r : Int × Int) (q : Int × Int × Bool) (h : Found l 0 r q) : (r = (-1, -1) ∧ q = (0, 0, false) ∧ Apart l) ∨ ∃ a b : Nat, r = ((a : Int), (b : Int)) ∧ q = ((a : Int), (b : Int), true) ∧ Meeting l a b := by
  rcases h with ⟨e1, e2, e3⟩ | ⟨a, b, hab, h, e1, e2, e3⟩
  · exact .inl ⟨e1, e2, fun a b hab h => e3 a b (Nat.zero_le _) hab h⟩
  · exact .inr ⟨a, b, e1, e2, hab, h, e3⟩
theorem valid_bd (n : Int) (l : List Int) (hv : ∀ m ∈ l, 0 ≤ m ∧ m < 65536) (c : listCode n l = 0) : l.length ≤ 1000 ∧ ∀ m ∈ l, 0 ≤ m ∧ m < 4096 := by
  have z := listCode_ok n l c
  exact ⟨by omega, fun m hm => ⟨(hv m hm).1, (okMark_bd n m (hv m hm).1 (z.2.2.2 m hm)).2.2⟩⟩
def Small (l : List Int) : Prop := ∀ x ∈ l, 0 ≤ x ∧ x < 4096
theorem Small.snoc {l : List Int} (h : Small l) (n : Nat) (hn : n < 4096) : Small (l ++ [(n : Int)]) := by
  intro x hx
  rcases List.mem_append.mp hx with h1 | h1
  · exact h x h1
  · rw [List.mem_singleton] at h1
    subst h1
    omega
end Go.Proofs.Ytedbegibkcegnac.M
end
section
namespace Go.Proofs.Ytedbegibkcegnac.M
open Go.RowKit Go.Proofs.YtedbegibkcegnacW.PrintWords Go.Proofs.YtedbegibkcegnacW.PrintLast Go.Proofs.YtedbegibkcegnacW.PrintMore
attribute [local go_sem] max2_int min2_int max_two min_two max_three min_three max_four min_four
set_option linter.unusedVariables false
set_option linter.unusedSimpArgs false
def greedy (most : Int) : Nat → List Int → List Int
  | 0, out => out
  | n + 1, out => if (out.length : Int) < most then (if out.any (fun x => meets x (n : Int)) = true then greedy most n out else greedy most n (out ++ [(n : Int)])) else out
theorem specGreedyRow_ev (most : Int) (n : Nat) (hn : n < 4096) (out : List Int) (hs : Small out) (hl : out.length ≤ 1000) (R : List Int × Int)
    (ht : out.any (fun x => meets x (n : Int)) = true → Ev (fun k => spec_GreedyMarks.l0 k most out ((n : Int) - 1)) R)
    (hf : out.any (fun x => meets x (n : Int)) = false → Ev (fun k => spec_GreedyMarks.l0 k most (out ++ [(n : Int)]) ((n : Int) - 1)) R) (d : Nat) :
    ∀ (i : Nat) (fine : Bool), i + d = out.length → (fine && !((out.drop i).any (fun x => meets x (n : Int)))) = (!(out.any (fun x => meets x (n : Int)))) →
      Ev (fun k => spec_GreedyMarks.l1 k most out (n : Int) (n : Int) fine (i : Int)) R := by
  have w1 : wrap64 ((n : Int) - 1) = (n : Int) - 1 := w64 _ (by omega) (by omega)
  induction d with
  | zero =>
    intro i fine hi hq
    rw [List.drop_eq_nil_of_le (by omega)] at hq
    simp only [List.any_nil, Bool.not_false, Bool.and_true] at hq
    cases fine with
    | true =>
      have q : out.any (fun x => meets x (n : Int)) = false := by simpa using hq.symm
      refine Ev.step (f := fun k => spec_GreedyMarks.l0 k most (out ++ [(n : Int)]) ((n : Int) - 1)) (fun k => ?_) (hf q)
      rw [spec_GreedyMarks.l1]
      rw [if_neg (by omega), if_pos rfl, if_pos (by omega), w1]
    | false =>
      have q : out.any (fun x => meets x (n : Int)) = true := by simpa using hq.symm
      refine Ev.step (f := fun k => spec_GreedyMarks.l0 k most out ((n : Int) - 1)) (fun k => ?_) (ht q)
      rw [spec_GreedyMarks.l1]
      rw [if_neg (by omega), if_neg (by decide), w1]
  | succ d ih =>
    intro i fine hi hq
    have hi2 : i < out.length := by omega
    have hd : out.drop i = out[i] :: out.drop (i + 1) := List.drop_eq_getElem_cons hi2
    have v := hs out[i] (List.getElem_mem hi2)
    have e : wrap64 ((i : Int) + 1) = ((i + 1 : Nat) : Int) := by rw [w64 _ (by omega) (by omega)]; rfl
    cases fine with
    | true =>
      have ha := apart_ev out[i] (n : Int) v.1 v.2 (by omega) (by omega)
      refine Ev.step (f := fun k => (spec_l06Apart.f k out[i] (n : Int)).bind fun t => spec_GreedyMarks.l1 k most out (n : Int) (n : Int) t ((i + 1 : Nat) : Int)) (fun k => ?_) (Ev.bind ha (ih (i + 1) _ (by omega) ?_))
      · rw [spec_GreedyMarks.l1]
        rw [if_pos (by omega), if_pos rfl, if_pos (by omega), rd_of_lt out i hi2, e]
      · rw [hd, List.any_cons] at hq
        rw [← hq]
        cases meets out[i] (n : Int) <;> simp
    | false =>
      refine Ev.step (f := fun k => spec_GreedyMarks.l1 k most out (n : Int) (n : Int) false ((i + 1 : Nat) : Int)) (fun k => ?_) (ih (i + 1) false (by omega) (by rw [← hq]; rfl))
      rw [spec_GreedyMarks.l1]
      rw [if_pos (by omega), if_neg (by decide), e]
theorem specGreedy_ev (most : Int) (hmost : most ≤ 40) (n : Nat) (hn : n ≤ 4096) : ∀ out : List Int, Small out → out.length ≤ 1000 → Ev (fun k => spec_GreedyMarks.l0 k most out ((n : Int) - 1)) (greedy most n out, 0) := by
  induction n with
  | zero =>
    intro out hs hl
    refine Ev.step (f := fun k => spec_GreedyMarks.j1 k most out (((0 : Nat) : Int) - 1) false) (fun k => by rw [spec_GreedyMarks.l0, if_neg (by omega)]) ?_
    exact Ev.step (f := fun _ => some (out, 0)) (fun k => by rw [spec_GreedyMarks.j1, if_neg (by decide)]) (Ev.const rfl)
  | succ n ih =>
    intro out hs hl
    have e : ((n + 1 : Nat) : Int) - 1 = (n : Int) := by omega
    have wn : IntKind.u16.wrap (n : Int) = n := wrap_nat n (by omega)
    rw [e]
    refine Ev.step (f := fun k => spec_GreedyMarks.j1 k most out (n : Int) (decide ((out.length : Int) < most))) (fun k => by rw [spec_GreedyMarks.l0, if_pos (by omega)]) ?_
    by_cases c : (out.length : Int) < most
    · rw [decide_eq_true c]
      refine Ev.step (f := fun k => spec_GreedyMarks.l1 k most out (n : Int) (n : Int) true ((0 : Nat) : Int)) (fun k => by rw [spec_GreedyMarks.j1, if_pos rfl, wn]; rfl) ?_
      refine specGreedyRow_ev most n (by omega) out hs hl _ ?_ ?_ out.length 0 true (by omega) (by rw [List.drop_zero]; simp)
      · intro q
        rw [greedy, if_pos c, if_pos q]
        exact ih (by omega) out hs hl
      · intro q
        rw [greedy, if_pos c, if_neg (by rw [q]; decide)]
        exact ih (by omega) _ (hs.snoc n (by omega)) (by rw [List.length_append]; simp; omega)
    · rw [decide_eq_false c, greedy, if_neg c]
      exact Ev.step (f := fun _ => some (out, 0)) (fun k => by rw [spec_GreedyMarks.j1, if_neg (by decide)]) (Ev.const rfl)
def greedyMarks (n most : Int) : List Int × Int :=
  if 1 ≤ n ∧ n ≤ 12 then (if 0 ≤ most ∧ most ≤ 40 then (greedy most (2 ^ n.toNat) [], 0) else ([], 2)) else ([], 1)
theorem specGreedyMarks_ev (n most : Int) : Ev (fun k => spec_GreedyMarks.f k n most) (greedyMarks n most) := by
  unfold greedyMarks
  by_cases h : 1 ≤ n ∧ n ≤ 12
  · rw [if_pos h]
    obtain ⟨j, rfl⟩ := Int.eq_ofNat_of_zero_le (show 0 ≤ n by omega)
    rw [Int.toNat_natCast]
    have hp := pow_nat_le j (by omega)
    have hw : wrap64 (((2 ^ j : Nat) : Int) - 1) = ((2 ^ j : Nat) : Int) - 1 := by
      generalize 2 ^ j = p at hp
      exact w64 _ (by omega) (by omega)
    by_cases h2 : 0 ≤ most ∧ most ≤ 40
    · rw [if_pos h2]
      refine Ev.congr (f := fun k => spec_GreedyMarks.l0 k most [] (((2 ^ j : Nat) : Int) - 1)) (fun k => ?_) (specGreedy_ev most h2.2 (2 ^ j) hp [] (fun x hx => by cases hx) (by simp))
      unfold spec_GreedyMarks.f
      rw [many_f, decide_eq_true h, Option.bind_some, if_pos rfl, in_f, decide_eq_true h2, Option.bind_some, if_pos rfl, u64_nat j (by omega), if_pos (by omega), shl_one j (by omega), ← pow_nat, hw]
    · rw [if_neg h2]
      exact Ev.fixed (fun k => by unfold spec_GreedyMarks.f; rw [many_f, decide_eq_true h, Option.bind_some, if_pos rfl, in_f, decide_eq_false h2]; rfl)
  · rw [if_neg h]
    exact Ev.fixed (fun k => by unfold spec_GreedyMarks.f; rw [many_f, decide_eq_false h]; rfl)
end Go.Proofs.Ytedbegibkcegnac.M
end
section
namespace Go.Proofs.Ytedbegibkcegnac.M
open Go.RowKit Go.Proofs.YtedbegibkcegnacW.PrintWords Go.Proofs.YtedbegibkcegnacW.PrintLast Go.Proofs.YtedbegibkcegnacW.PrintMore
attribute [local go_sem] max2_int min2_int max_two min_two max_three min_three max_four min_four
set_option linter.unusedVariables false
set_option linter.unusedSimpArgs false
def readAt (l : List Int) (a : Int) : Int := idxP (fun x => (seenOf x 12).contains a) l
theorem implRead_ev (l : List Int) (a : Int) (hl : ∀ x ∈ l, 0 ≤ x ∧ x < 65536) : Ev (fun k => impl_read.f k l a) (readAt l a) := by
  have key : ∃ K, ∀ k, K ≤ k → ∀ x ∈ l, impl_Mark_lost.f k x = some (seenOf x 12) := by
    induction l with
    | nil => exact ⟨0, fun k _ x hx => by cases hx⟩
    | cons y r ih =>
      obtain ⟨K, hK⟩ := ih (fun x hx => hl x (List.mem_cons_of_mem _ hx))
      have hy := hl y (List.mem_cons_self ..)
      obtain ⟨K', hK'⟩ := implLost_ev y hy.1 hy.2
      refine ⟨max K K', fun k hk x hx => ?_⟩
      rcases List.mem_cons.mp hx with rfl | h2
      · exact hK' k (by omega)
      · exact hK k (by omega) x h2
  obtain ⟨K, hK⟩ := key
  refine ⟨K, fun k hk => ?_⟩
  dsimp only
  unfold impl_read.f
  have b : l.all (fun x => (impl_Mark_lost.f k x).isSome) = true := by
    rw [List.all_eq_true]
    intro x hx
    rw [hK k hk x hx]
    rfl
  rw [if_pos b]
  congr 1
  refine idxP_congr _ _ l fun x hx => ?_
  unfold seesB
  rw [hK k hk x hx]
def codeSeen (n : Int) (l : List Int) (s : Int) : Int := if okMark n s = true then listCode n l else 1
theorem codeSeen_ev (n : Int) (l : List Int) (s : Int) : Ev (fun k => (impl_markCode.f n (l ++ [s])).bind fun a => (impl_fewMarks.f l).bind fun b => impl_firstOf.f k [a, b]) (codeSeen n l s) := by
  have e (a b : Int) := firstOf_ev [a, b] (by simp)
  rw [implCode_f, few_f]
  refine Ev.congr (f := fun k => impl_firstOf.f k [if 1 ≤ n ∧ n ≤ 12 then (if (l ++ [s]).any (fun m => !okMark n m) = true then 1 else 0) else 1, if l.length ≤ 40 then 0 else 3]) (fun k => rfl) ?_
  have q : firstNZ [if 1 ≤ n ∧ n ≤ 12 then (if (l ++ [s]).any (fun m => !okMark n m) = true then (1 : Int) else 0) else 1, if l.length ≤ 40 then 0 else 3] = codeSeen n l s := by
    unfold codeSeen listCode
    rw [List.any_append]
    by_cases c : 1 ≤ n ∧ n ≤ 12
    · rw [if_pos c, if_pos c]
      cases d : l.any (fun m => !okMark n m) with
      | true => cases f : okMark n s <;> rfl
      | false =>
        cases f : okMark n s with
        | true =>
          rw [List.any_cons, f]
          show firstNZ [if false = true then 1 else 0, if l.length ≤ 40 then 0 else 3] = if true = true then (if false = true then 1 else if l.length > 40 then 3 else 0) else 1
          simp only [Bool.false_eq_true, if_false, if_true]
          by_cases g : l.length ≤ 40
          · rw [if_pos g, if_neg (by omega)]; rfl
          · rw [if_neg g, if_pos (by omega)]; rfl
        | false => rw [List.any_cons, f]; rfl
    · have f := okMark_out n s c
      rw [if_neg c, f]; rfl
  have := e (if 1 ≤ n ∧ n ≤ 12 then (if (l ++ [s]).any (fun m => !okMark n m) = true then 1 else 0) else 1) (if l.length ≤ 40 then 0 else 3)
  rw [q] at this
  exact this
def ReadAnswer (n : Int) (l : List Int) (s : Int) (R : Int × Int) : Prop :=
  (codeSeen n l s ≠ 0 ∧ R = (0, codeSeen n l s)) ∨ (codeSeen n l s = 0 ∧ (((∃ a b : Nat, Meeting l a b) ∧ R = (0, 4)) ∨ (Apart l ∧ ((readAt l s < 0 ∧ R = (0, 6)) ∨ (0 ≤ readAt l s ∧ R = (readAt l s, 0))))))
theorem clone_f (l : List Int) (h : l.length ≤ 1048576) : slices_Clone_impl_Mark_impl_Mark.f l = some l := by
  unfold slices_Clone_impl_Mark_impl_Mark.f
  rw [if_pos (by omega)]
theorem implReadS_eq (n : Int) (l : List Int) (s : Int) (h : l.length ≤ 1048576) (k : Nat) : impl_ReadStitches.f k n l s = ((impl_markCode.f n (l ++ [s])).bind fun a => (impl_fewMarks.f l).bind fun b => impl_firstOf.f k [a, b]).bind fun t => if t = 0 then ((impl_apartCode.f k l).bind fun t584 => (impl_ReadStitches.j0 k l s t584)) else impl_ReadStitches.j0 k l s t := by
  unfold impl_ReadStitches.f
  rw [clone_f l h, Option.bind_some, if_pos (by omega), implCode_f, few_f]
  rfl
theorem codeSeen_zero (n : Int) (l : List Int) (s : Int) (h : codeSeen n l s = 0) : okMark n s = true ∧ listCode n l = 0 := by
  unfold codeSeen at h
  by_cases c : okMark n s = true
  · rw [if_pos c] at h; exact ⟨c, h⟩
  · rw [if_neg c] at h; omega
theorem implTold_ev (n : Int) (l : List Int) (hv : ∀ m ∈ l, 0 ≤ m ∧ m < 65536) (hc : listCode n l = 0) :
    ∃ c, ((c = 0 ∧ Apart l) ∨ (c = 4 ∧ ∃ a b : Nat, Meeting l a b)) ∧ Ev (fun k => impl_apartCode.f k l) c := by
  obtain ⟨v1, v2⟩ := valid_bd n l hv hc
  obtain ⟨r, q, hF, hr, hq⟩ := search_both l v1 v2
  rcases found_split l r q hF with ⟨rfl, rfl, e⟩ | ⟨a, b, rfl, rfl, e⟩
  · exact ⟨0, .inl ⟨rfl, e⟩, Ev.bind hq (Ev.const rfl)⟩
  · exact ⟨4, .inr ⟨rfl, a, b, e⟩, Ev.bind hq (Ev.const rfl)⟩
theorem implReadS_ev (n : Int) (l : List Int) (s : Int) (hm : l.length ≤ 1048576) (hv : ∀ m ∈ l, 0 ≤ m ∧ m < 65536) :
    ∃ R, ReadAnswer n l s R ∧ Ev (fun k => impl_ReadStitches.f k n l s) R := by
  have hi := codeSeen_ev n l s
  by_cases c : codeSeen n l s = 0
  · obtain ⟨c1, c2⟩ := codeSeen_zero n l s c
    obtain ⟨t, ht, ha⟩ := implTold_ev n l hv c2
    rw [c] at hi
    rcases ht with ⟨rfl, e⟩ | ⟨rfl, e⟩
    · have r2 := implRead_ev l s hv
      by_cases z : readAt l s < 0
      · refine ⟨(0, 6), .inr ⟨c, .inr ⟨e, .inl ⟨z, rfl⟩⟩⟩, ?_⟩
        refine Ev.congr (implReadS_eq n l s hm) (Ev.bind hi (Ev.ite_t rfl (Ev.bind ha ?_)))
        exact Ev.step (f := fun k => (impl_read.f k l s).bind fun t => if t < 0 then some (0, 6) else some (t, 0)) (fun k => by rw [impl_ReadStitches.j0, if_pos rfl]) (Ev.bind r2 (Ev.ite_t z (Ev.const rfl)))
      · refine ⟨(readAt l s, 0), .inr ⟨c, .inr ⟨e, .inr ⟨by omega, rfl⟩⟩⟩, ?_⟩
        refine Ev.congr (implReadS_eq n l s hm) (Ev.bind hi (Ev.ite_t rfl (Ev.bind ha ?_)))
        exact Ev.step (f := fun k => (impl_read.f k l s).bind fun t => if t < 0 then some (0, 6) else some (t, 0)) (fun k => by rw [impl_ReadStitches.j0, if_pos rfl]) (Ev.bind r2 (Ev.ite_f z (Ev.const rfl)))
    · refine ⟨(0, 4), .inr ⟨c, .inl ⟨e, rfl⟩⟩, ?_⟩
      refine Ev.congr (implReadS_eq n l s hm) (Ev.bind hi (Ev.ite_t rfl (Ev.bind ha ?_)))
      exact Ev.step (f := fun _ => some (0, 4)) (fun k => by rw [impl_ReadStitches.j0, if_neg (by decide)]) (Ev.const rfl)
  · refine ⟨(0, codeSeen n l s), .inl ⟨c, rfl⟩, ?_⟩
    refine Ev.congr (implReadS_eq n l s hm) (Ev.bind hi (Ev.ite_f c ?_))
    exact Ev.step (f := fun _ => some (0, codeSeen n l s)) (fun k => by rw [impl_ReadStitches.j0, if_neg c]) (Ev.const rfl)
end Go.Proofs.Ytedbegibkcegnac.M
end
