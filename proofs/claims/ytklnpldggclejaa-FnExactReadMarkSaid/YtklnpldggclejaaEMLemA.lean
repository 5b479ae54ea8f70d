/- ReadMark: what the program's and the reference's come to. No condition: a text of no mark is told as such. -/
import Derived.Test.YtklnpldggclejaaEEvLoop
import Derived.Test.YtklnpldggclejaaEMBits
import Derived.Test.YtklnpldggclejaaEMLem
import Derived.Test.YtklnpldggclejaaEMarkCode
import Derived.Test.YtklnpldggclejaaM0
import Derived.Test.YtklnpldggclejaaM1
import Derived.Test.YtklnpldggclejaaM2
namespace Go.Proofs.Ytklnpldggclejaa.M
open Go.RowKit Go.Proofs.YtklnpldggclejaaW.PrintWords Go.Proofs.YtklnpldggclejaaW.PrintLast Go.Proofs.YtklnpldggclejaaW.PrintMore
attribute [local go_sem] max2_int min2_int max_two min_two max_three min_three max_four min_four
set_option linter.unusedVariables false
set_option linter.unusedSimpArgs false
/-- The mark that the first i bytes of a text tell. -/
def markTold (s : ByteArray) : Nat → Nat
  | 0 => 0
  | i + 1 => if bt s (i : Nat) = 43 then markTold s i ||| 2 ^ i else markTold s i
theorem markTold_succ (s : ByteArray) (i : Nat) : markTold s (i + 1) = if bt s (i : Nat) = 43 then markTold s i ||| 2 ^ i else markTold s i := rfl
theorem markTold_lt (s : ByteArray) : ∀ i, markTold s i < 2 ^ i
  | 0 => by show 0 < 1; omega
  | i + 1 => by
    have ih := markTold_lt s i
    have p : 2 ^ (i + 1) = 2 * 2 ^ i := by rw [Nat.pow_succ]; omega
    unfold markTold
    split
    · exact Nat.or_lt_two_pow (by omega) (by rw [p]; have := Nat.two_pow_pos i; omega)
    · omega
theorem markTold_bit (s : ByteArray) : ∀ n i, i < n → (markTold s n).testBit i = decide (bt s (i : Nat) = 43)
  | 0, _, h => absurd h (by omega)
  | n + 1, i, h => by
    by_cases e : i = n
    · subst e
      have z : (markTold s i).testBit i = false := Nat.testBit_lt_two_pow (markTold_lt s i)
      unfold markTold
      by_cases c : bt s (i : Nat) = 43
      · rw [if_pos c, Nat.testBit_or, Nat.testBit_two_pow_self]; simp [c]
      · rw [if_neg c, z]; simp [c]
    · have ih := markTold_bit s n i (by omega)
      unfold markTold
      by_cases c : bt s (n : Nat) = 43
      · rw [if_pos c, Nat.testBit_or, Nat.testBit_two_pow_of_ne (fun q => e q.symm), ih]; simp
      · rw [if_neg c, ih]
theorem or_nat (a i : Nat) (ha : a < 65536) (hi : i < 16) : Go.bits .or .u16 (a : Int) (shl .u16 1 (i : Int)) = ((a ||| 2 ^ i : Nat) : Int) := by
  have hp : 2 ^ i < 2 ^ 16 := Nat.pow_lt_pow_right (by omega) hi
  have e1 : shl .u16 1 (i : Int) = ((2 ^ i : Nat) : Int) := by
    unfold shl
    have e : min (i : Int).toNat IntKind.u16.bits = i := Nat.min_eq_left (show i ≤ 16 by omega)
    rw [e, Int.one_mul]
    have q : ((2 : Int) ^ i) = ((2 ^ i : Nat) : Int) := by simp
    rw [q]
    exact IntWalk.u16_in _ ⟨Int.natCast_nonneg _, by omega⟩
  rw [e1]
  obtain ⟨v, e, hv⟩ := bits_eq .or a (2 ^ i)
  rw [e, hv]
  show (((BitVec.ofInt 16 (a : Int) ||| BitVec.ofInt 16 ((2 ^ i : Nat) : Int)).toNat : Nat) : Int) = _
  have f : ∀ x : Nat, x < 65536 → (BitVec.ofInt 16 (x : Int)).toNat = x := by
    intro x hx
    have : BitVec.ofInt 16 (x : Int) = BitVec.ofNat 16 x := by apply BitVec.eq_of_toNat_eq; simp
    rw [this, BitVec.toNat_ofNat]
    exact Nat.mod_eq_of_lt (by omega)
  rw [BitVec.toNat_or, f a ha, f _ (by omega)]
/-- The bytes of a mark's first n stitches. -/
def markNums (m : Nat) : Nat → List Int
  | 0 => []
  | n + 1 => markNums m n ++ [if m.testBit n = true then 43 else 46]
theorem markNums_len (m : Nat) : ∀ n, (markNums m n).length = n
  | 0 => rfl
  | n + 1 => by unfold markNums; rw [List.length_append, markNums_len m n]; rfl
theorem markNums_at (m : Nat) : ∀ n i (h : i < n), (markNums m n)[i]'(by rw [markNums_len]; exact h) = if m.testBit i = true then 43 else 46
  | 0, _, h => absurd h (by omega)
  | n + 1, i, h => by
    have e := markNums_len m n
    by_cases q : i = n
    · subst q
      simp only [markNums]
      rw [List.getElem_append_right (by omega)]
      simp [e]
    · have ih := markNums_at m n i (by omega)
      simp only [markNums]
      rw [List.getElem_append_left (by omega)]
      exact ih
theorem text_list (m n : Nat) : (strOfNums (markNums m n)).toList = (markNums m n).map fun x => UInt8.ofNat x.toNat := by
  rw [ByteArray.toList_eq]
  rfl
theorem bt_nat (s : ByteArray) (i : Nat) (h : i < s.size) : bt s (i : Nat) = ((s[i]'h).toNat : Int) := by
  unfold bt
  rw [dif_pos (by simpa using h)]
  rfl
theorem list_at (s : ByteArray) (i : Nat) (h : i < s.size) : s.toList[i]? = some (s[i]'h) := by
  rw [ByteArray.toList_eq, Array.getElem?_toList]
  exact Array.getElem?_eq_getElem h
theorem text_same (s : ByteArray) (n : Nat) (e : s.size = n) (h : ∀ i : Nat, i < n → bt s (i : Nat) = 43 ∨ bt s (i : Nat) = 46) : (strOfNums (markNums (markTold s n) n)).toList = s.toList := by
  rw [text_list]
  apply List.ext_getElem?
  intro i
  by_cases c : i < n
  · rw [list_at s i (by omega), List.getElem?_map, List.getElem?_eq_getElem (by rw [markNums_len]; exact c), markNums_at _ _ _ c, markTold_bit s n i c]
    have b := h i c
    have q := bt_nat s i (by omega)
    simp only [Option.map_some, Option.some.injEq]
    apply UInt8.toNat_inj.mp
    rcases b with b | b
    · rw [b] at q ⊢
      simp
      omega
    · rw [b] at q ⊢
      simp
      omega
  · rw [List.getElem?_eq_none (by rw [List.length_map, markNums_len]; omega), List.getElem?_eq_none (by rw [ByteArray.toList_eq, Array.length_toList]; show s.size ≤ i; omega)]
theorem text_other (s : ByteArray) (m n : Nat) (e : s.size = n) (h : (strOfNums (markNums m n)).toList = s.toList) (i : Nat) (hi : i < n) : bt s (i : Nat) = 43 ∨ bt s (i : Nat) = 46 := by
  rw [text_list] at h
  have q : ((markNums m n).map fun x => UInt8.ofNat x.toNat)[i]? = s.toList[i]? := by rw [h]
  rw [list_at s i (by omega), List.getElem?_map, List.getElem?_eq_getElem (by rw [markNums_len]; exact hi), markNums_at _ _ _ hi] at q
  simp only [Option.map_some, Option.some.injEq] at q
  rw [bt_nat s i (by omega), ← q]
  split
  · left; rfl
  · right; rfl
theorem specRM_good (s : ByteArray) (n : Nat) (e : s.size = n) (hn : n ≤ 12) (h : ∀ i : Nat, i < n → bt s (i : Nat) = 43 ∨ bt s (i : Nat) = 46) (d : Nat) : ∀ i : Nat, i + d = n → Ev (fun k => spec_ReadMark.l0 k s (n : Int) ((markTold s i : Nat) : Int) (i : Int)) (((markTold s n : Nat) : Int), (n : Int), 0) := by
  induction d with
  | zero =>
    intro i hd
    obtain rfl : i = n := by omega
    refine Ev.step (f := fun _ => some (((markTold s i : Nat) : Int), (i : Int), 0)) (fun k => ?_) (Ev.const rfl)
    rw [spec_ReadMark.l0]
    rw [if_neg (by omega)]
  | succ d ih =>
    intro i hd
    have w1 : wrap64 ((i : Int) + 1) = ((i + 1 : Nat) : Int) := by rw [w64 _ (by omega) (by omega)]; rfl
    have u : IntKind.u64.wrap (i : Int) = i := IntWalk.u64_in _ ⟨by omega, by omega⟩
    have lt := markTold_lt s i
    have p : 2 ^ i ≤ 2 ^ 16 := Nat.pow_le_pow_right (by omega) (by omega)
    refine Ev.step (f := fun k => spec_ReadMark.l0 k s (n : Int) ((markTold s (i + 1) : Nat) : Int) ((i + 1 : Nat) : Int)) (fun k => ?_) (ih (i + 1) (by omega))
    rw [spec_ReadMark.l0]
    rw [if_pos (by omega), if_pos (by omega), u, w1]
    by_cases c : bt s (i : Int) = 43
    · rw [if_pos c, if_pos (by omega), or_nat _ _ (by omega) (by omega), markTold_succ, if_pos c]
    · rw [if_neg c, if_pos (by have := h i (by omega); omega), markTold_succ, if_neg c]
theorem specRM_bad (s : ByteArray) (n : Nat) (e : s.size = n) (hn : n ≤ 12) (d : Nat) : ∀ (i : Nat) (m : Int), i + d = n → (∃ j : Nat, i ≤ j ∧ j < n ∧ ¬ (bt s (j : Nat) = 43 ∨ bt s (j : Nat) = 46)) → Ev (fun k => spec_ReadMark.l0 k s (n : Int) m (i : Int)) (0, 0, 5) := by
  induction d with
  | zero =>
    rintro i m hd ⟨j, h1, h2, _⟩
    omega
  | succ d ih =>
    rintro i m hd ⟨j, h1, h2, h3⟩
    have w1 : wrap64 ((i : Int) + 1) = ((i + 1 : Nat) : Int) := by rw [w64 _ (by omega) (by omega)]; rfl
    have u : IntKind.u64.wrap (i : Int) = i := IntWalk.u64_in _ ⟨by omega, by omega⟩
    by_cases c : bt s (i : Int) = 43
    · have hj : i + 1 ≤ j := by
        have : i ≠ j := by rintro rfl; exact h3 (.inl c)
        omega
      refine Ev.step (f := fun k => spec_ReadMark.l0 k s (n : Int) (Go.bits .or .u16 m (shl .u16 1 (i : Int))) ((i + 1 : Nat) : Int)) (fun k => ?_) (ih (i + 1) _ (by omega) ⟨j, hj, h2, h3⟩)
      rw [spec_ReadMark.l0]
      rw [if_pos (by omega), if_pos (by omega), if_pos c, u, if_pos (by omega), w1]
    · by_cases c2 : bt s (i : Int) = 46
      · have hj : i + 1 ≤ j := by
          have : i ≠ j := by rintro rfl; exact h3 (.inr c2)
          omega
        refine Ev.step (f := fun k => spec_ReadMark.l0 k s (n : Int) m ((i + 1 : Nat) : Int)) (fun k => ?_) (ih (i + 1) _ (by omega) ⟨j, hj, h2, h3⟩)
        rw [spec_ReadMark.l0]
        rw [if_pos (by omega), if_pos (by omega), if_neg c, if_pos c2, w1]
      · refine Ev.step (f := fun _ => some (0, 0, 5)) (fun k => ?_) (Ev.const rfl)
        rw [spec_ReadMark.l0]
        rw [if_pos (by omega), if_pos (by omega), if_neg c, if_neg c2]
theorem text_ev (m n : Nat) (hm : m < 65536) (hn : n ≤ 12) (d : Nat) : ∀ i : Nat, i + d = n → Ev (fun k => impl_MarkText.l0 k (m : Int) (markNums m i) (n : Int) (i : Int)) (strOfNums (markNums m n)) := by
  induction d with
  | zero =>
    intro i hd
    obtain rfl : i = n := by omega
    refine Ev.step (f := fun _ => some (strOfNums (markNums m i))) (fun k => ?_) (Ev.const rfl)
    rw [impl_MarkText.l0]
    rw [if_neg (by omega)]
  | succ d ih =>
    intro i hd
    have w1 : wrap64 ((i : Int) + 1) = ((i + 1 : Nat) : Int) := by rw [w64 _ (by omega) (by omega)]; rfl
    have len := markNums_len m i
    have b := bit_and (m : Int) (by omega) (by omega) i (by omega)
    rw [bitAt_nat] at b
    refine Ev.step (f := fun k => impl_MarkText.l0 k (m : Int) (markNums m (i + 1)) (n : Int) ((i + 1 : Nat) : Int)) (fun k => ?_) (ih (i + 1) (by omega))
    rw [impl_MarkText.l0]
    rw [if_pos (by omega), if_pos (by omega), b, w1]
    rw [show markNums m (i + 1) = markNums m i ++ [if m.testBit i = true then 43 else 46] from rfl]
    cases c : m.testBit i with
    | true => rw [if_pos (by rfl), if_pos (by omega), if_pos rfl]
    | false => rw [if_neg (by decide), if_pos (by omega), if_neg (by decide)]
theorem implRM_ev (s : ByteArray) (n : Nat) (e : s.size = n) (q : Nat) (hq : q ≤ n) (h12 : q ≤ 12) (R : Int × Int × Int)
    (next : Ev (fun k => if (n : Int) = 0 then some (0, 0, 5) else ((impl_MarkText.f k (n : Int) ((markTold s q : Nat) : Int)).bind fun t115 => (if t115.toList = s.toList then (some (((markTold s q : Nat) : Int), (n : Int), 0)) else (some (0, 0, 5))))) R) (d : Nat) : ∀ i : Nat, i + d = q → Ev (fun k => impl_ReadMark.l0 k s ((markTold s i : Nat) : Int) (n : Int) (q : Int) (i : Int)) R := by
  induction d with
  | zero =>
    intro i hd
    obtain rfl : i = q := by omega
    refine Ev.step (fun k => ?_) next
    rw [impl_ReadMark.l0]
    rw [if_neg (by omega)]
  | succ d ih =>
    intro i hd
    have w1 : wrap64 ((i : Int) + 1) = ((i + 1 : Nat) : Int) := by rw [w64 _ (by omega) (by omega)]; rfl
    have lt := markTold_lt s i
    have p : 2 ^ i ≤ 2 ^ 16 := Nat.pow_le_pow_right (by omega) (by omega)
    refine Ev.step (f := fun k => impl_ReadMark.l0 k s ((markTold s (i + 1) : Nat) : Int) (n : Int) (q : Int) ((i + 1 : Nat) : Int)) (fun k => ?_) (ih (i + 1) (by omega))
    rw [impl_ReadMark.l0]
    rw [if_pos (by omega), if_pos (by omega), if_pos (by omega), w1]
    rw [markTold_succ]
    by_cases c : bt s (i : Int) = 43
    · rw [if_pos c, if_pos c, or_nat _ _ (by omega) (by omega)]
    · rw [if_neg c, if_neg c]
theorem ReadMark_both (s : ByteArray) : ∃ R, Ev (fun k => spec_ReadMark.f k s) R ∧ Ev (fun k => impl_ReadMark.f k s) R := by
  have many := many_f (s.size : Int)
  by_cases c : 1 ≤ s.size ∧ s.size ≤ 12
  · have mm : mn (s.size : Int) 12 = ((s.size : Nat) : Int) := by unfold mn; rw [if_neg (by omega)]
    have lt := markTold_lt s s.size
    have p : 2 ^ s.size ≤ 2 ^ 16 := Nat.pow_le_pow_right (by omega) (by omega)
    have ok : okMark (s.size : Int) ((markTold s s.size : Nat) : Int) = true := by
      rw [okMark_iff _ _ (by omega)]
      refine ⟨by omega, by omega, ?_⟩
      have : ((2 : Int) ^ (s.size : Int).toNat) = ((2 ^ s.size : Nat) : Int) := by simp
      rw [this]
      omega
    have tx := text_ev (markTold s s.size) s.size (by omega) c.2 s.size 0 (by omega)
    have tx2 : Ev (fun k => impl_MarkText.f k (s.size : Int) ((markTold s s.size : Nat) : Int)) (strOfNums (markNums (markTold s s.size) s.size)) := by
      refine Ev.congr (fun k => ?_) tx
      unfold impl_MarkText.f
      rw [valid_f, ok]
      rfl
    have z : ¬ ((s.size : Int) = 0) := by omega
    have e1 : ∀ k, impl_ReadMark.f k s = impl_ReadMark.l0 k s ((markTold s 0 : Nat) : Int) (s.size : Int) ((s.size : Nat) : Int) ((0 : Nat) : Int) := by
      intro k
      unfold impl_ReadMark.f
      rw [mm]
      rfl
    have e2 : ∀ k, spec_ReadMark.f k s = spec_ReadMark.l0 k s (s.size : Int) ((markTold s 0 : Nat) : Int) ((0 : Nat) : Int) := by
      intro k
      unfold spec_ReadMark.f
      rw [many, decide_eq_true (by omega)]
      rfl
    by_cases g : ∀ i : Nat, i < s.size → bt s (i : Nat) = 43 ∨ bt s (i : Nat) = 46
    · refine ⟨_, Ev.congr e2 (specRM_good s s.size rfl c.2 g s.size 0 (by omega)), Ev.congr e1 ?_⟩
      refine implRM_ev s s.size rfl s.size (Nat.le_refl _) c.2 _ ?_ s.size 0 (by omega)
      exact Ev.ite_f z (Ev.bind tx2 (Ev.ite_t (text_same s s.size rfl g) (Ev.const rfl)))
    · have g2 : ∃ j : Nat, 0 ≤ j ∧ j < s.size ∧ ¬ (bt s (j : Nat) = 43 ∨ bt s (j : Nat) = 46) := by
        apply Classical.byContradiction
        intro no
        apply g
        intro i hi
        apply Classical.byContradiction
        intro q
        exact no ⟨i, Nat.zero_le _, hi, q⟩
      refine ⟨_, Ev.congr e2 (specRM_bad s s.size rfl c.2 s.size 0 _ (by omega) g2), Ev.congr e1 ?_⟩
      refine implRM_ev s s.size rfl s.size (Nat.le_refl _) c.2 _ ?_ s.size 0 (by omega)
      refine Ev.ite_f z (Ev.bind tx2 (Ev.ite_f (fun q => g fun i hi => text_other s _ _ rfl q i hi) (Ev.const rfl)))
  · refine ⟨(0, 0, 5), Ev.congr (f := fun _ => some (0, 0, 5)) (fun k => ?_) (Ev.const rfl), ?_⟩
    · unfold spec_ReadMark.f
      rw [many, decide_eq_false (by omega)]
      rfl
    · by_cases z : s.size = 0
      · refine Ev.congr (f := fun k => impl_ReadMark.l0 k s ((markTold s 0 : Nat) : Int) (s.size : Int) ((0 : Nat) : Int) ((0 : Nat) : Int)) (fun k => ?_) (implRM_ev s s.size rfl 0 (by omega) (by omega) _ (Ev.ite_t (by omega) (Ev.const rfl)) 0 0 rfl)
        unfold impl_ReadMark.f
        rw [show mn (s.size : Int) 12 = 0 by unfold mn; rw [if_neg (by omega)]; omega]
        rfl
      · have lt := markTold_lt s 12
        refine Ev.congr (f := fun k => impl_ReadMark.l0 k s ((markTold s 0 : Nat) : Int) (s.size : Int) ((12 : Nat) : Int) ((0 : Nat) : Int)) (fun k => ?_) (implRM_ev s s.size rfl 12 (by omega) (by omega) _ (Ev.ite_f (by omega) ?_) 12 0 rfl)
        · unfold impl_ReadMark.f
          rw [show mn (s.size : Int) 12 = 12 by unfold mn; rw [if_pos (by omega)]]
          rfl
        · refine Ev.bind (a := (⟨#[]⟩ : ByteArray)) (Ev.fixed (fun k => ?_)) (Ev.ite_f ?_ (Ev.const rfl))
          · unfold impl_MarkText.f
            rw [valid_f, okMark_out _ _ (by omega)]
            rfl
          · intro q
            have := congrArg List.length q
            rw [ByteArray.toList_eq, ByteArray.toList_eq, Array.length_toList, Array.length_toList] at this
            exact z this.symm

end Go.Proofs.Ytklnpldggclejaa.M
