/- FirstClash and CheckMarks: the program's and the reference's come to the same, and to what. Condition: the marks are uint16, the list is not longer than memory. -/
import Derived.Test.YtklnpldggclejaaEEvLoop
import Derived.Test.YtklnpldggclejaaEMLem
import Derived.Test.YtklnpldggclejaaEMLem3
import Derived.Test.YtklnpldggclejaaEMarkCode
import Derived.Test.YtklnpldggclejaaM0
import Derived.Test.YtklnpldggclejaaM10
import Derived.Test.YtklnpldggclejaaM13
import Derived.Test.YtklnpldggclejaaM30
import Derived.Test.YtklnpldggclejaaM31
import Derived.Test.YtklnpldggclejaaM4
namespace Go.Proofs.Ytklnpldggclejaa.M
open Go.RowKit Go.Proofs.YtklnpldggclejaaW.PrintWords Go.Proofs.YtklnpldggclejaaW.PrintLast Go.Proofs.YtklnpldggclejaaW.PrintMore
attribute [local go_sem] max2_int min2_int max_two min_two max_three min_three max_four min_four
set_option linter.unusedVariables false
set_option linter.unusedSimpArgs false
/-- No two marks meet. -/
def Apart (l : List Int) : Prop := ∀ a b : Nat, (hab : a < b) → (h : b < l.length) → meets (l[a]'(by omega)) l[b] = false
def Meeting (l : List Int) (a b : Nat) : Prop := ∃ hab : a < b, ∃ h : b < l.length, meets (l[a]'(by omega)) l[b] = true
/-- What FirstClash answers. -/
def ClashAnswer (n : Int) (l : List Int) (R : Int × Int × Int) : Prop :=
  (listCode n l ≠ 0 ∧ R = (0, 0, listCode n l)) ∨ (listCode n l = 0 ∧ ((R = (0, 0, 6) ∧ Apart l) ∨ ∃ a b : Nat, R = ((a : Int), (b : Int), 0) ∧ Meeting l a b))
theorem implFirst_eq (n : Int) (l : List Int) (k : Nat) : impl_FirstClash.f k n l = ((impl_markCode.f n l).bind fun a => (impl_fewMarks.f l).bind fun b => impl_firstOf.f k [a, b]).bind fun t => if t = 0 then ((impl_firstClash.f k l).bind fun bt => if bt.2.2 = true then some (bt.1, bt.2.1, 0) else some (0, 0, 6)) else some (0, 0, t) := by
  unfold impl_FirstClash.f
  rw [implCode_f, few_f]
  rfl
theorem code_bd (n : Int) (l : List Int) (h : listCode n l ≠ 0) : listCode n l = 1 ∨ listCode n l = 3 := by
  unfold listCode at h ⊢
  by_cases c : 1 ≤ n ∧ n ≤ 12
  · rw [if_pos c] at h ⊢
    by_cases d : l.any (fun m => !okMark n m) = true
    · rw [if_pos d]; exact .inl rfl
    · rw [if_neg d] at h ⊢
      by_cases f : l.length > 40
      · rw [if_pos f]; exact .inr rfl
      · rw [if_neg f] at h; exact absurd rfl h
  · rw [if_neg c]; exact .inl rfl
theorem found_split (l : List Int) (r : Int × Int) (q : Int × Int × Bool) (h : Found l 0 r q) : (r = (-1, -1) ∧ q = (0, 0, false) ∧ Apart l) ∨ ∃ a b : Nat, r = ((a : Int), (b : Int)) ∧ q = ((a : Int), (b : Int), true) ∧ Meeting l a b := by
  rcases h with ⟨e1, e2, e3⟩ | ⟨a, b, hab, h, e1, e2, e3⟩
  · exact .inl ⟨e1, e2, fun a b hab h => e3 a b (Nat.zero_le _) hab h⟩
  · exact .inr ⟨a, b, e1, e2, hab, h, e3⟩
theorem valid_bd (n : Int) (l : List Int) (hv : ∀ m ∈ l, 0 ≤ m ∧ m < 65536) (c : listCode n l = 0) : l.length ≤ 1000 ∧ ∀ m ∈ l, 0 ≤ m ∧ m < 4096 := by
  have z := listCode_ok n l c
  exact ⟨by omega, fun m hm => ⟨(hv m hm).1, (okMark_bd n m (hv m hm).1 (z.2.2.2 m hm)).2.2⟩⟩
theorem FirstClash_both (n : Int) (l : List Int) (hm : l.length ≤ 4611686018427387904) (hv : ∀ m ∈ l, 0 ≤ m ∧ m < 65536) :
    ∃ R, ClashAnswer n l R ∧ Ev (fun k => spec_FirstClash.f k n l) R ∧ Ev (fun k => impl_FirstClash.f k n l) R := by
  have hs := specList_ev n l hm
  have hi := implCode_ev n l
  by_cases c : listCode n l = 0
  · obtain ⟨v1, v2⟩ := valid_bd n l hv c
    obtain ⟨r, q, hF, hr, hq⟩ := search_both l v1 v2
    rw [c] at hs hi
    rcases found_split l r q hF with ⟨rfl, rfl, e⟩ | ⟨a, b, rfl, rfl, e⟩
    · refine ⟨(0, 0, 6), .inr ⟨c, .inl ⟨rfl, e⟩⟩, ?_, ?_⟩
      · exact Ev.bind hs (Ev.ite_t rfl (Ev.bind hr (Ev.ite_t (by decide) (Ev.const rfl))))
      · refine Ev.congr (implFirst_eq n l) ?_
        exact Ev.bind hi (Ev.ite_t rfl (Ev.bind hq (Ev.ite_f (by decide) (Ev.const rfl))))
    · refine ⟨((a : Int), (b : Int), 0), .inr ⟨c, .inr ⟨a, b, rfl, e⟩⟩, ?_, ?_⟩
      · exact Ev.bind hs (Ev.ite_t rfl (Ev.bind hr (Ev.ite_f (by dsimp only; omega) (Ev.const rfl))))
      · refine Ev.congr (implFirst_eq n l) ?_
        exact Ev.bind hi (Ev.ite_t rfl (Ev.bind hq (Ev.ite_t rfl (Ev.const rfl))))
  · refine ⟨(0, 0, listCode n l), .inl ⟨c, rfl⟩, ?_, ?_⟩
    · exact Ev.bind hs (Ev.ite_f c (Ev.const rfl))
    · refine Ev.congr (implFirst_eq n l) ?_
      exact Ev.bind hi (Ev.ite_f c (Ev.const rfl))
/-- What CheckMarks answers. -/
def CheckAnswer (n : Int) (l : List Int) (R : Bool × Int) : Prop :=
  (listCode n l ≠ 0 ∧ R = (false, listCode n l)) ∨ (listCode n l = 0 ∧ ((R = (true, 0) ∧ Apart l) ∨ (R = (false, 0) ∧ ∃ a b : Nat, Meeting l a b)))
theorem CheckMarks_both (n : Int) (l : List Int) (hm : l.length ≤ 4611686018427387904) (hv : ∀ m ∈ l, 0 ≤ m ∧ m < 65536) :
    ∃ R, CheckAnswer n l R ∧ Ev (fun k => spec_CheckMarks.f k n l) R ∧ Ev (fun k => impl_CheckMarks.f k n l) R := by
  have hs := specList_ev n l hm
  obtain ⟨Q, hA, _, hI⟩ := FirstClash_both n l hm hv
  by_cases c : listCode n l = 0
  · obtain ⟨v1, v2⟩ := valid_bd n l hv c
    obtain ⟨r, q, hF, hr, hq⟩ := search_both l v1 v2
    rw [c] at hs
    have hi := implCode_ev n l
    rw [c] at hi
    rcases found_split l r q hF with ⟨rfl, rfl, e⟩ | ⟨a, b, rfl, rfl, e⟩
    · have hI2 : Ev (fun k => impl_FirstClash.f k n l) (0, 0, 6) := by
        refine Ev.congr (implFirst_eq n l) ?_
        exact Ev.bind hi (Ev.ite_t rfl (Ev.bind hq (Ev.ite_f (by decide) (Ev.const rfl))))
      refine ⟨(true, 0), .inr ⟨c, .inl ⟨rfl, e⟩⟩, ?_, ?_⟩
      · exact Ev.bind hs (Ev.ite_t rfl (Ev.bind hr (Ev.const rfl)))
      · exact Ev.bind hI2 (Ev.ite_t rfl (Ev.const rfl))
    · have hI2 : Ev (fun k => impl_FirstClash.f k n l) ((a : Int), (b : Int), 0) := by
        refine Ev.congr (implFirst_eq n l) ?_
        exact Ev.bind hi (Ev.ite_t rfl (Ev.bind hq (Ev.ite_t rfl (Ev.const rfl))))
      refine ⟨(false, 0), .inr ⟨c, .inr ⟨rfl, a, b, e⟩⟩, ?_, ?_⟩
      · refine Ev.bind hs (Ev.ite_t rfl (Ev.bind hr (Ev.const ?_)))
        have : decide ((a : Int) < 0) = false := decide_eq_false (by omega)
        rw [this]
      · exact Ev.bind hI2 (Ev.ite_f (show ¬ ((0 : Int) = 6) by decide) (Ev.const rfl))
  · refine ⟨(false, listCode n l), .inl ⟨c, rfl⟩, ?_, ?_⟩
    · exact Ev.bind hs (Ev.ite_f c (Ev.const rfl))
    · have hi := implCode_ev n l
      have hI2 : Ev (fun k => impl_FirstClash.f k n l) (0, 0, listCode n l) := by
        refine Ev.congr (implFirst_eq n l) ?_
        exact Ev.bind hi (Ev.ite_f c (Ev.const rfl))
      have c6 : ¬ listCode n l = 6 := by have := code_bd n l c; omega
      exact Ev.bind hI2 (Ev.ite_f c6 (Ev.const rfl))

end Go.Proofs.Ytklnpldggclejaa.M
