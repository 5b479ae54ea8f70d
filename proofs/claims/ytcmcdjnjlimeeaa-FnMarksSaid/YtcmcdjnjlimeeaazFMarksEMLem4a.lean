import Derived.Test.YtcmcdjnjlimeeaazFMarksEEvLoop
import Derived.Test.YtcmcdjnjlimeeaazFMarksEMLem
import Derived.Test.YtcmcdjnjlimeeaazFMarksEMLem3
import Derived.Test.YtcmcdjnjlimeeaazFMarksEMarkCode
import Derived.Test.YtcmcdjnjlimeeaazFMarksM0
import Derived.Test.YtcmcdjnjlimeeaazFMarksM5
import Derived.Test.YtcmcdjnjlimeeaazFMarksM6
namespace Go.Proofs.Ytcmcdjnjlimeeaa.M
open Go.RowKit Go.Proofs.YtcmcdjnjlimeeaaW.PrintWords Go.Proofs.YtcmcdjnjlimeeaaW.PrintLast Go.Proofs.YtcmcdjnjlimeeaaW.PrintMore
attribute [local go_sem] max2_int min2_int max_two min_two max_three min_three max_four min_four
set_option linter.unusedVariables false
set_option linter.unusedSimpArgs false
def Apart (l : List Int) : Prop := ∀ a b : Nat, (hab : a < b) → (h : b < l.length) → meets (l[a]'(by omega)) l[b] = false
def Meeting (l : List Int) (a b : Nat) : Prop := ∃ hab : a < b, ∃ h : b < l.length, meets (l[a]'(by omega)) l[b] = true
theorem implFirst_eq (n : Int) (l : List Int) (k : Nat) : impl_FirstClash.f k n l = ((impl_markCode.f n l).bind fun a => (impl_fewMarks.f l).bind fun b => impl_firstOf.f k [a, b]).bind fun t => if t = 0 then ((impl_firstClash.f k l).bind fun bt => if bt.2.2 = true then some (bt.1, bt.2.1, 0) else some (0, 0, 6)) else some (0, 0, t) := by
  unfold impl_FirstClash.f
  rw [implCode_f, few_f]
  rfl
theorem code_bd (n : Int) (l : List Int) (h : listCode n l ≠ 0) : listCode n l = 1 ∨ listCode n l = 3 := by
  unfold listCode at h ⊢
  by_cases c : 1 ≤ n ∧ n ≤ 12
  · rw [if_pos c] at h ⊢
    by_cases d : l.any (fun m => !okMark n m) = true
    · rw [if_pos d]; exact .inl rfl
    · rw [if_neg d] at h ⊢
      by_cases f : l.length > 40
      · rw [if_pos f]; exact .inr rfl
      · rw [if_neg f] at h; exact absurd rfl h
  · rw [if_neg c]; exact .inl rfl
theorem found_split (l : List Int) (r : Int × Int) (q : Int × Int × Bool) (h : Found l 0 r q) : (r = (-1, -1) ∧ q = (0, 0, false) ∧ Apart l) ∨ ∃ a b : Nat, r = ((a : Int), (b : Int)) ∧ q = ((a : Int), (b : Int), true) ∧ Meeting l a b := by
  rcases h with ⟨e1, e2, e3⟩ | ⟨a, b, hab, h, e1, e2, e3⟩
  · exact .inl ⟨e1, e2, fun a b hab h => e3 a b (Nat.zero_le _) hab h⟩
  · exact .inr ⟨a, b, e1, e2, hab, h, e3⟩
theorem valid_bd (n : Int) (l : List Int) (hv : ∀ m ∈ l, 0 ≤ m ∧ m < 65536) (c : listCode n l = 0) : l.length ≤ 1000 ∧ ∀ m ∈ l, 0 ≤ m ∧ m < 4096 := by
  have z := listCode_ok n l c
  exact ⟨by omega, fun m hm => ⟨(hv m hm).1, (okMark_bd n m (hv m hm).1 (z.2.2.2 m hm)).2.2⟩⟩
theorem implCheck_ev (n : Int) (l : List Int) (hv : ∀ m ∈ l, 0 ≤ m ∧ m < 65536) (c : listCode n l = 0) (hA : Apart l) : Ev (fun k => impl_CheckMarks.f k n l) (true, 0) := by
  have hi := implCode_ev n l
  rw [c] at hi
  obtain ⟨v1, v2⟩ := valid_bd n l hv c
  obtain ⟨r, q, hF, hr, hq⟩ := search_both l v1 v2
  rcases found_split l r q hF with ⟨rfl, rfl, e⟩ | ⟨a, b, rfl, rfl, hab, hb, e⟩
  · have hI2 : Ev (fun k => impl_FirstClash.f k n l) (0, 0, 6) := by
      refine Ev.congr (implFirst_eq n l) ?_
      exact Ev.bind hi (Ev.ite_t rfl (Ev.bind hq (Ev.ite_f (by decide) (Ev.const rfl))))
    exact Ev.bind hI2 (Ev.ite_t rfl (Ev.const rfl))
  · rw [hA a b hab hb] at e
    exact absurd e (by decide)
def Small (l : List Int) : Prop := ∀ x ∈ l, 0 ≤ x ∧ x < 4096
theorem Small.snoc {l : List Int} (h : Small l) (n : Nat) (hn : n < 4096) : Small (l ++ [(n : Int)]) := by
  intro x hx
  rcases List.mem_append.mp hx with h1 | h1
  · exact h x h1
  · rw [List.mem_singleton] at h1
    subst h1
    omega
end Go.Proofs.Ytcmcdjnjlimeeaa.M
