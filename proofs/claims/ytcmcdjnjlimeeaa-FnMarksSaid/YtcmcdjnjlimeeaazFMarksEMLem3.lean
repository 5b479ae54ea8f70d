import Derived.Test.YtcmcdjnjlimeeaazFMarksEClash
import Derived.Test.YtcmcdjnjlimeeaazFMarksEEvLoop
import Derived.Test.YtcmcdjnjlimeeaazFMarksEMLem
import Derived.Test.YtcmcdjnjlimeeaazFMarksEMLem2
import Derived.Test.YtcmcdjnjlimeeaazFMarksEMarkCode
import Derived.Test.YtcmcdjnjlimeeaazFMarksM0
import Derived.Test.YtcmcdjnjlimeeaazFMarksM5
import Derived.Test.YtcmcdjnjlimeeaazFMarksM6
import Derived.Test.YtcmcdjnjlimeeaazFMarksM7
import Derived.Test.YtcmcdjnjlimeeaazFMarksM8
namespace Go.Proofs.Ytcmcdjnjlimeeaa.M
open Go.RowKit Go.Proofs.YtcmcdjnjlimeeaaW.PrintWords Go.Proofs.YtcmcdjnjlimeeaaW.PrintLast Go.Proofs.YtcmcdjnjlimeeaaW.PrintMore
attribute [local go_sem] max2_int min2_int max_two min_two max_three min_three max_four min_four
set_option linter.unusedVariables false
set_option linter.unusedSimpArgs false
def firstNZ : List Int → Int
  | [] => 0
  | x :: r => if x = 0 then firstNZ r else x
theorem firstOf_ev (l : List Int) (hm : l.length ≤ 4611686018427387904) : Ev (fun k => impl_firstOf.f k l) (firstNZ l) := by
  refine Ev.loop (L := fun k s => impl_firstOf.l0 k l (l.length : Int) s) (fun s d => ∃ i : Nat, i + d = l.length ∧ s = (i : Int) ∧ firstNZ (l.drop i) = firstNZ l) ?_ l.length 0 ⟨0, by omega, rfl, rfl⟩
  rintro s d ⟨i, hd, rfl, hf⟩
  by_cases c : i < l.length
  · have e : l.drop i = l[i] :: l.drop (i + 1) := List.drop_eq_getElem_cons c
    by_cases q : l[i] = 0
    · refine .inr ⟨((i + 1 : Nat) : Int), d - 1, by omega, ⟨i + 1, by omega, rfl, ?_⟩, 0, fun k _ => ?_⟩
      · rw [← hf, e, firstNZ, if_pos q]
      · rw [impl_firstOf.l0]
        rw [if_pos (by omega), if_pos (by omega), if_pos (by omega), rd_of_lt l i c, if_pos q, w64 _ (by omega) (by omega)]
        rfl
    · refine .inl ⟨0, fun k _ => ?_⟩
      rw [← hf, e, firstNZ, if_neg q]
      rw [impl_firstOf.l0]
      rw [if_pos (by omega), if_pos (by omega), if_pos (by omega), rd_of_lt l i c, if_neg q]
  · refine .inl ⟨0, fun k _ => ?_⟩
    rw [← hf, List.drop_eq_nil_of_le (by omega)]
    rw [impl_firstOf.l0]
    rw [if_neg (by omega)]
    rfl
def listCode (n : Int) (l : List Int) : Int := if 1 ≤ n ∧ n ≤ 12 then (if l.any (fun m => !okMark n m) = true then 1 else if l.length > 40 then 3 else 0) else 1
theorem few_f (l : List Int) : impl_fewMarks.f l = some (if l.length ≤ 40 then 0 else 3) := by
  unfold impl_fewMarks.f
  rw [unless_d]
  by_cases c : l.length ≤ 40
  · rw [if_pos (by omega), if_pos c]; rfl
  · rw [if_neg (by omega), if_neg c]; rfl
theorem implCode_f (n : Int) (l : List Int) : impl_markCode.f n l = some (if 1 ≤ n ∧ n ≤ 12 then (if l.any (fun m => !okMark n m) = true then 1 else 0) else 1) := rfl
theorem implCode_ev (n : Int) (l : List Int) : Ev (fun k => (impl_markCode.f n l).bind fun a => (impl_fewMarks.f l).bind fun b => impl_firstOf.f k [a, b]) (listCode n l) := by
  rw [implCode_f, few_f]
  refine Ev.congr (f := fun k => impl_firstOf.f k [if 1 ≤ n ∧ n ≤ 12 then (if l.any (fun m => !okMark n m) = true then 1 else 0) else 1, if l.length ≤ 40 then 0 else 3]) (fun k => rfl) ?_
  have e := firstOf_ev [if 1 ≤ n ∧ n ≤ 12 then (if l.any (fun m => !okMark n m) = true then 1 else 0) else 1, if l.length ≤ 40 then 0 else 3] (by simp)
  have q : firstNZ [if 1 ≤ n ∧ n ≤ 12 then (if l.any (fun m => !okMark n m) = true then (1 : Int) else 0) else 1, if l.length ≤ 40 then 0 else 3] = listCode n l := by
    unfold listCode
    by_cases c : 1 ≤ n ∧ n ≤ 12
    · rw [if_pos c, if_pos c]
      by_cases d : l.any (fun m => !okMark n m) = true
      · rw [if_pos d, if_pos d]; rfl
      · rw [if_neg d, if_neg d]
        by_cases f : l.length ≤ 40
        · rw [if_pos f, if_neg (by omega)]; rfl
        · rw [if_neg f, if_pos (by omega)]; rfl
    · rw [if_neg c, if_neg c]; rfl
  rw [q] at e
  exact e
theorem specList_ev (n : Int) (l : List Int) (hm : l.length ≤ 4611686018427387904) : Ev (fun k => spec_l06List.f k n l) (listCode n l) := by
  by_cases c : 1 ≤ n ∧ n ≤ 12
  · refine Ev.congr (f := fun k => spec_l06List.l0 k n l 0) (fun k => by unfold spec_l06List.f; rw [many_f, decide_eq_true c]; rfl) ?_
    refine Ev.loop (L := fun k s => spec_l06List.l0 k n l s) (fun s d => ∃ i : Nat, i + d = l.length ∧ s = (i : Int) ∧ (l.drop i).any (fun m => !okMark n m) = l.any (fun m => !okMark n m)) ?_ l.length 0 ⟨0, by omega, rfl, rfl⟩
    rintro s d ⟨i, hd, rfl, hf⟩
    by_cases h : i < l.length
    · have e : l.drop i = l[i] :: l.drop (i + 1) := List.drop_eq_getElem_cons h
      cases q : okMark n l[i] with
      | true =>
        refine .inr ⟨((i + 1 : Nat) : Int), d - 1, by omega, ⟨i + 1, by omega, rfl, ?_⟩, 0, fun k _ => ?_⟩
        · rw [← hf, e, List.any_cons, q]; rfl
        · rw [spec_l06List.l0]
          rw [if_pos (by omega), if_pos (by omega), rd_of_lt l i h, ok_f, q, w64 _ (by omega) (by omega)]
          rfl
      | false =>
        refine .inl ⟨0, fun k _ => ?_⟩
        have a : l.any (fun m => !okMark n m) = true := by rw [← hf, e, List.any_cons, q]; rfl
        unfold listCode
        rw [if_pos c, if_pos a]
        rw [spec_l06List.l0]
        rw [if_pos (by omega), if_pos (by omega), rd_of_lt l i h, ok_f, q]
        rfl
    · refine .inl ⟨0, fun k _ => ?_⟩
      have a : l.any (fun m => !okMark n m) = false := by rw [← hf, List.drop_eq_nil_of_le (by omega)]; rfl
      unfold listCode
      rw [if_pos c, a, if_neg (by decide)]
      rw [spec_l06List.l0]
      rw [if_neg (by omega)]
      by_cases f : l.length > 40
      · rw [if_pos (by omega), if_pos f]
      · rw [if_neg (by omega), if_neg f]
  · refine Ev.fixed (fun k => ?_)
    unfold spec_l06List.f listCode
    rw [many_f, decide_eq_false c, if_neg c]
    rfl
theorem listCode_ok (n : Int) (l : List Int) (h : listCode n l = 0) : 1 ≤ n ∧ n ≤ 12 ∧ l.length ≤ 40 ∧ ∀ m ∈ l, okMark n m = true := by
  unfold listCode at h
  by_cases c : 1 ≤ n ∧ n ≤ 12
  · rw [if_pos c] at h
    cases d : l.any (fun m => !okMark n m) with
    | true => rw [d, if_pos rfl] at h; omega
    | false =>
      rw [d, if_neg (by decide)] at h
      by_cases f : l.length > 40
      · rw [if_pos f] at h; omega
      · rw [List.any_eq_false] at d
        exact ⟨c.1, c.2, by omega, fun m hm => by simpa using d m hm⟩
  · rw [if_neg c] at h; omega
theorem has_ev (l : List Int) (x : Int) (hm : l.length ≤ 4611686018427387904) : Ev (fun k => spec_l06Has.f k l x) (l.contains x) := by
  refine Ev.loop (L := fun k s => spec_l06Has.l0 k l x s) (fun s d => ∃ i : Nat, i + d = l.length ∧ s = (i : Int) ∧ (l.drop i).contains x = l.contains x) ?_ l.length 0 ⟨0, by omega, rfl, rfl⟩
  rintro s d ⟨i, hd, rfl, hf⟩
  by_cases c : i < l.length
  · have e : l.drop i = l[i] :: l.drop (i + 1) := List.drop_eq_getElem_cons c
    by_cases q : l[i] = x
    · refine .inl ⟨0, fun k _ => ?_⟩
      have a : l.contains x = true := by rw [← hf, e, List.contains_cons, q, beq_self_eq_true]; rfl
      rw [a]
      rw [spec_l06Has.l0]
      rw [if_pos (by omega), if_pos (by omega), rd_of_lt l i c, if_pos q]
    · refine .inr ⟨((i + 1 : Nat) : Int), d - 1, by omega, ⟨i + 1, by omega, rfl, ?_⟩, 0, fun k _ => ?_⟩
      · rw [← hf, e, List.contains_cons, beq_eq_false_iff_ne.mpr (fun h => q h.symm)]; rfl
      · rw [spec_l06Has.l0]
        rw [if_pos (by omega), if_pos (by omega), rd_of_lt l i c, if_neg q, w64 _ (by omega) (by omega)]
        rfl
  · refine .inl ⟨0, fun k _ => ?_⟩
    have a : l.contains x = false := by rw [← hf, List.drop_eq_nil_of_le (by omega)]; rfl
    rw [a]
    rw [spec_l06Has.l0]
    rw [if_neg (by omega)]
def meets (a b : Int) : Bool := (seenOf a 12).any fun m => (seenOf b 12).contains m
theorem apartLoop_ev (x y : List Int) (hx : x.length ≤ 1000) (hy : y.length ≤ 1000) : Ev (fun k => spec_l06Apart.l0 k x y 0) (!(x.any fun m => y.contains m)) := by
  refine Ev.loop (L := fun k s => spec_l06Apart.l0 k x y s) (fun s d => ∃ i : Nat, i + d = x.length ∧ s = (i : Int) ∧ (x.drop i).any (fun m => y.contains m) = x.any (fun m => y.contains m)) ?_ x.length 0 ⟨0, by omega, rfl, rfl⟩
  rintro s d ⟨i, hd, rfl, hf⟩
  by_cases c : i < x.length
  · have e : x.drop i = x[i] :: x.drop (i + 1) := List.drop_eq_getElem_cons c
    obtain ⟨K, hK⟩ := has_ev y x[i] (by omega)
    cases q : y.contains x[i] with
    | true =>
      refine .inl ⟨K, fun k hk => ?_⟩
      have a : x.any (fun m => y.contains m) = true := by rw [← hf, e, List.any_cons, q]; rfl
      have g := hK k hk
      rw [q] at g
      rw [a]
      rw [spec_l06Apart.l0]
      rw [if_pos (by omega), if_pos (by omega), rd_of_lt x i c]
      dsimp only at g
      rw [g]
      rfl
    | false =>
      refine .inr ⟨((i + 1 : Nat) : Int), d - 1, by omega, ⟨i + 1, by omega, rfl, ?_⟩, K, fun k hk => ?_⟩
      · rw [← hf, e, List.any_cons, q]; rfl
      · have g := hK k hk
        rw [q] at g
        dsimp only at g ⊢
        rw [spec_l06Apart.l0]
        rw [if_pos (by omega), if_pos (by omega), rd_of_lt x i c, g, w64 _ (by omega) (by omega)]
        rfl
  · refine .inl ⟨0, fun k _ => ?_⟩
    have a : x.any (fun m => y.contains m) = false := by rw [← hf, List.drop_eq_nil_of_le (by omega)]; rfl
    rw [a]
    rw [spec_l06Apart.l0]
    rw [if_neg (by omega)]
    rfl
theorem apart_ev (a b : Int) (ha : 0 ≤ a) (ha' : a < 4096) (hb : 0 ≤ b) (hb' : b < 4096) : Ev (fun k => spec_l06Apart.f k a b) (!meets a b) := by
  have la := seen_len a 12
  have lb := seen_len b 12
  refine Ev.bind (a := seenOf a 12) ?_ (Ev.bind (a := seenOf b 12) ?_ (apartLoop_ev _ _ (by omega) (by omega)))
  · rw [← seen_12 a ha ha']; exact specSeen_ev a ha
  · rw [← seen_12 b hb hb']; exact specSeen_ev b hb
theorem clash_ev (a b : Int) (ha : 0 ≤ a) (ha' : a < 65536) (hb : 0 ≤ b) (hb' : b < 65536) : Ev (fun k => impl_clash.f k a b) (meets a b) :=
  Ev.bind (implLost_ev a ha ha') (Ev.bind (implLost_ev b hb hb') (Ev.const rfl))
def Found (l : List Int) (i : Nat) (r : Int × Int) (q : Int × Int × Bool) : Prop :=
  (r = (-1, -1) ∧ q = (0, 0, false) ∧ ∀ a b : Nat, i ≤ a → (hab : a < b) → (h : b < l.length) → meets (l[a]'(by omega)) l[b] = false) ∨
  ∃ a b : Nat, ∃ hab : a < b, ∃ h : b < l.length, r = ((a : Int), (b : Int)) ∧ q = ((a : Int), (b : Int), true) ∧ meets (l[a]'(by omega)) l[b] = true
theorem search_row (l : List Int) (hl : l.length ≤ 1000) (hv : ∀ m ∈ l, 0 ≤ m ∧ m < 4096) (i : Nat) (hi : i < l.length)
    (next : ∃ r q, Found l (i + 1) r q ∧ Ev (fun k => spec_l06Clash.l0 k l ((i + 1 : Nat) : Int)) r ∧ Ev (fun k => impl_firstClash.l0 k l l (l.length : Int) ((i + 1 : Nat) : Int)) q) (d : Nat) :
    ∀ j : Nat, i < j → j + d = l.length → (∀ b : Nat, i < b → b < j → (h : b < l.length) → meets l[i] l[b] = false) →
    ∃ r q, Found l i r q ∧ Ev (fun k => spec_l06Clash.l1 k l (i : Int) (j : Int)) r ∧ Ev (fun k => impl_firstClash.l1 k l (i : Int) l[i] (j : Int) l (l.length : Int) (i : Int)) q := by
  induction d with
  | zero =>
    intro j hij hj hb
    obtain ⟨r, q, hF, hr, hq⟩ := next
    refine ⟨r, q, ?_, ?_, ?_⟩
    · rcases hF with ⟨e1, e2, e3⟩ | h
      · refine .inl ⟨e1, e2, fun a b ha hab h => ?_⟩
        by_cases c : a = i
        · subst c; exact hb b hab (by omega) h
        · exact e3 a b (by omega) hab h
      · exact .inr h
    · refine Ev.step (f := fun k => spec_l06Clash.l0 k l ((i + 1 : Nat) : Int)) (fun k => ?_) hr
      rw [spec_l06Clash.l1]
      rw [if_neg (by omega), w64 _ (by omega) (by omega)]
      rfl
    · refine Ev.step (f := fun k => impl_firstClash.l0 k l l (l.length : Int) ((i + 1 : Nat) : Int)) (fun k => ?_) hq
      rw [impl_firstClash.l1]
      rw [if_neg (by omega), w64 _ (by omega) (by omega)]
      rfl
  | succ d ih =>
    intro j hij hj hb
    have hjl : j < l.length := by omega
    have vi := hv l[i] (List.getElem_mem hi)
    have vj := hv l[j] (List.getElem_mem hjl)
    have eA := apart_ev l[i] l[j] vi.1 vi.2 vj.1 vj.2
    have eC := clash_ev l[i] l[j] vi.1 (by omega) vj.1 (by omega)
    cases m : meets l[i] l[j] with
    | true =>
      rw [m] at eA eC
      refine ⟨((i : Int), (j : Int)), ((i : Int), (j : Int), true), .inr ⟨i, j, hij, hjl, rfl, rfl, m⟩, ?_, ?_⟩
      · refine Ev.step (f := fun k => (spec_l06Apart.f k l[i] l[j]).bind fun t => if t = true then spec_l06Clash.l1 k l (i : Int) (wrap64 ((j : Int) + 1)) else some ((i : Int), (j : Int))) (fun k => ?_) (Ev.bind eA (Ev.ite_f (by decide) (Ev.const rfl)))
        rw [spec_l06Clash.l1]
        rw [if_pos (by omega), if_pos (by omega), if_pos (by omega), if_pos (by omega), rd_of_lt l i hi, rd_of_lt l j hjl]
      · refine Ev.step (f := fun k => (impl_clash.f k l[i] l[j]).bind fun t => if t = true then some ((i : Int), (j : Int), true) else impl_firstClash.l1 k l (i : Int) l[i] (wrap64 ((j : Int) + 1)) l (l.length : Int) (i : Int)) (fun k => ?_) (Ev.bind eC (Ev.ite_t rfl (Ev.const rfl)))
        rw [impl_firstClash.l1]
        rw [if_pos (by omega), if_pos (by omega), rd_of_lt l j hjl]
    | false =>
      rw [m] at eA eC
      obtain ⟨r, q, hF, hr, hq⟩ := ih (j + 1) (by omega) (by omega) (fun b h1 h2 h => by
        by_cases c : b = j
        · subst c; exact m
        · exact hb b h1 (by omega) h)
      have e : wrap64 ((j : Int) + 1) = ((j + 1 : Nat) : Int) := by rw [w64 _ (by omega) (by omega)]; rfl
      refine ⟨r, q, hF, ?_, ?_⟩
      · refine Ev.step (f := fun k => (spec_l06Apart.f k l[i] l[j]).bind fun t => if t = true then spec_l06Clash.l1 k l (i : Int) ((j + 1 : Nat) : Int) else some ((i : Int), (j : Int))) (fun k => ?_) (Ev.bind eA (Ev.ite_t rfl hr))
        rw [spec_l06Clash.l1]
        rw [if_pos (by omega), if_pos (by omega), if_pos (by omega), if_pos (by omega), rd_of_lt l i hi, rd_of_lt l j hjl, e]
      · refine Ev.step (f := fun k => (impl_clash.f k l[i] l[j]).bind fun t => if t = true then some ((i : Int), (j : Int), true) else impl_firstClash.l1 k l (i : Int) l[i] ((j + 1 : Nat) : Int) l (l.length : Int) (i : Int)) (fun k => ?_) (Ev.bind eC (Ev.ite_f (by decide) hq))
        rw [impl_firstClash.l1]
        rw [if_pos (by omega), if_pos (by omega), rd_of_lt l j hjl, e]
theorem search_from (l : List Int) (hl : l.length ≤ 1000) (hv : ∀ m ∈ l, 0 ≤ m ∧ m < 4096) (d : Nat) : ∀ i : Nat, i + d = l.length →
    ∃ r q, Found l i r q ∧ Ev (fun k => spec_l06Clash.l0 k l (i : Int)) r ∧ Ev (fun k => impl_firstClash.l0 k l l (l.length : Int) (i : Int)) q := by
  induction d with
  | zero =>
    intro i h
    refine ⟨(-1, -1), (0, 0, false), .inl ⟨rfl, rfl, fun a b ha hab h => by omega⟩, Ev.step (f := fun _ => some (-1, -1)) (fun k => ?_) (Ev.const rfl), Ev.step (f := fun _ => some (0, 0, false)) (fun k => ?_) (Ev.const rfl)⟩
    · rw [spec_l06Clash.l0]
      rw [if_neg (by omega)]
    · rw [impl_firstClash.l0]
      rw [if_neg (by omega)]
  | succ d ih =>
    intro i h
    have hi : i < l.length := by omega
    have e : wrap64 ((i : Int) + 1) = ((i + 1 : Nat) : Int) := by rw [w64 _ (by omega) (by omega)]; rfl
    obtain ⟨r, q, hF, hr, hq⟩ := search_row l hl hv i hi (ih (i + 1) (by omega)) d (i + 1) (by omega) (by omega) (fun b h1 h2 h => by omega)
    refine ⟨r, q, hF, ?_, ?_⟩
    · refine Ev.step (f := fun k => spec_l06Clash.l1 k l (i : Int) ((i + 1 : Nat) : Int)) (fun k => ?_) hr
      rw [spec_l06Clash.l0]
      rw [if_pos (by omega), e]
    · refine Ev.step (f := fun k => impl_firstClash.l1 k l (i : Int) l[i] ((i + 1 : Nat) : Int) l (l.length : Int) (i : Int)) (fun k => ?_) hq
      rw [impl_firstClash.l0]
      rw [if_pos (by omega), if_pos (by omega), if_pos (by omega), rd_of_lt l i hi, e]
theorem search_both (l : List Int) (hl : l.length ≤ 1000) (hv : ∀ m ∈ l, 0 ≤ m ∧ m < 4096) :
    ∃ r q, Found l 0 r q ∧ Ev (fun k => spec_l06Clash.f k l) r ∧ Ev (fun k => impl_firstClash.f k l) q := search_from l hl hv l.length 0 (by omega)
end Go.Proofs.Ytcmcdjnjlimeeaa.M
