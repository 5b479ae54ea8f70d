import Derived.Test.YtpokpbhcfdaapaazESortByMarksEEvLoop
import Derived.Test.YtpokpbhcfdaapaazESortByMarksEMLem
import Derived.Test.YtpokpbhcfdaapaazESortByMarksEMLem3
import Derived.Test.YtpokpbhcfdaapaazESortByMarksEMarkCode
import Derived.Test.YtpokpbhcfdaapaazESortByMarksM0
import Derived.Test.YtpokpbhcfdaapaazESortByMarksM11
import Derived.Test.YtpokpbhcfdaapaazESortByMarksM12
import Derived.Test.YtpokpbhcfdaapaazESortByMarksM1
import Derived.Test.YtpokpbhcfdaapaazESortByMarksM4
import Derived.Test.YtpokpbhcfdaapaazESortByMarksM9
import Derived.Test.YtpokpbhcfdaapaazESortByMarksM5
namespace Go.Proofs.Ytpokpbhcfdaapaa.M
open Go.RowKit Go.Proofs.YtpokpbhcfdaapaaW.PrintWords Go.Proofs.YtpokpbhcfdaapaaW.PrintLast Go.Proofs.YtpokpbhcfdaapaaW.PrintMore
attribute [local go_sem] max2_int min2_int max_two min_two max_three min_three max_four min_four
set_option linter.unusedVariables false
set_option linter.unusedSimpArgs false
def Apart (l : List Int) : Prop := ∀ a b : Nat, (hab : a < b) → (h : b < l.length) → meets (l[a]'(by omega)) l[b] = false
def Meeting (l : List Int) (a b : Nat) : Prop := ∃ hab : a < b, ∃ h : b < l.length, meets (l[a]'(by omega)) l[b] = true
theorem found_split (l : List Int) (r : Int × Int) (q : Int × Int × Bool) (h : Found l 0 r q) : (r = (-1, -1) ∧ q = (0, 0, false) ∧ Apart l) ∨ ∃ a b : Nat, r = ((a : Int), (b : Int)) ∧ q = ((a : Int), (b : Int), true) ∧ Meeting l a b := by
  rcases h with ⟨e1, e2, e3⟩ | ⟨a, b, hab, h, e1, e2, e3⟩
  · exact .inl ⟨e1, e2, fun a b hab h => e3 a b (Nat.zero_le _) hab h⟩
  · exact .inr ⟨a, b, e1, e2, hab, h, e3⟩
theorem valid_bd (n : Int) (l : List Int) (hv : ∀ m ∈ l, 0 ≤ m ∧ m < 65536) (c : listCode n l = 0) : l.length ≤ 1000 ∧ ∀ m ∈ l, 0 ≤ m ∧ m < 4096 := by
  have z := listCode_ok n l c
  exact ⟨by omega, fun m hm => ⟨(hv m hm).1, (okMark_bd n m (hv m hm).1 (z.2.2.2 m hm)).2.2⟩⟩
def Small (l : List Int) : Prop := ∀ x ∈ l, 0 ≤ x ∧ x < 4096
theorem Small.snoc {l : List Int} (h : Small l) (n : Nat) (hn : n < 4096) : Small (l ++ [(n : Int)]) := by
  intro x hx
  rcases List.mem_append.mp hx with h1 | h1
  · exact h x h1
  · rw [List.mem_singleton] at h1
    subst h1
    omega
end Go.Proofs.Ytpokpbhcfdaapaa.M
