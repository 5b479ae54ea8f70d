/- PiecesText: the program's and the reference's come to the same text. Condition: the list is not longer than 1048576. -/
import Derived.Test.YthkccaclmodjiaaDoorD0
import Derived.Test.YthkccaclmodjiaaDoorD2
import Derived.Test.YthkccaclmodjiaaDoorD3
import Derived.Test.YthkccaclmodjiaaDoorD4
import Derived.Test.YthkccaclmodjiaaDoorEDLem
import Derived.Test.YthkccaclmodjiaaDoorEEvLoop
import Derived.Test.YthkccaclmodjiaaDoorEListsPiece
import Derived.Test.YthkccaclmodjiaaDoorEPText
import Derived.Test.YthkccaclmodjiaaDoorEPieceCode
import Derived.Lib.ItoaLen
namespace Go.Proofs.YthkccaclmodjiaaDoor.D
open Go.RowKit Go.Proofs.YthkccaclmodjiaaDoorW.PrintWords Go.Proofs.YthkccaclmodjiaaDoorW.PrintLast Go.Proofs.YthkccaclmodjiaaDoorW.PrintMore
attribute [local go_sem] max2_int min2_int max_two min_two max_three min_three max_four min_four
set_option linter.unusedVariables false
set_option linter.unusedSimpArgs false
open Go.Lib
/-- A number's text. -/
def numText (n : Int) : ByteArray := ⟨(Lib.itoa n).toArray⟩
theorem numText_nat (u : Nat) : numText (u : Int) = ⟨(decDigits u).toArray⟩ := by
  unfold numText Lib.itoa
  rw [if_neg (by omega), Int.toNat_natCast]
theorem digit_txt (u : Nat) (h : u ≤ 1000) : strOfNums [(wrap64 (48 + Int.tmod (u : Int) 10)) % 256] = ⟨#[UInt8.ofNat (48 + u % 10)]⟩ := by
  have e : (wrap64 (48 + Int.tmod (u : Int) 10)) % 256 = ((48 + u % 10 : Nat) : Int) := by
    rw [Int.tmod_eq_emod_of_nonneg (by omega), w64 _ (by omega) (by omega)]
    omega
  rw [e]
  rfl
theorem dec_ev : ∀ u : Nat, u ≤ 1000 → Ev (fun k => spec_Decimal.f k (u : Int)) (numText (u : Int)) := by
  intro u
  induction u using Nat.strongRecOn with
  | ind u ih =>
    intro hu
    rw [numText_nat]
    have hd := digit_txt u hu
    by_cases c : u < 10
    · refine Ev.step (fun k => by rw [spec_Decimal.f]) (Ev.ite_t (by omega) (Ev.const ?_))
      rw [hd, decDigits, dif_pos c, Nat.mod_eq_of_lt c]
    · have hw : wrap64 (Int.tdiv (u : Int) 10) = ((u / 10 : Nat) : Int) := by
        rw [Int.tdiv_eq_ediv_of_nonneg (by omega), w64 _ (by omega) (by omega)]
        omega
      have hi := ih (u / 10) (by omega) (by omega)
      rw [numText_nat] at hi
      refine Ev.step (fun k => by rw [spec_Decimal.f]) (Ev.ite_f (by omega) ?_)
      rw [hw]
      refine Ev.bind hi (Ev.bind (Ev.const rfl) ?_)
      rw [hd]
      refine Ev.ite_t ?_ (Ev.const ?_)
      · have hl := decDigits_length (u / 10)
        have : nDigits (u / 10) ≤ 1000 := by
          have h1 : ∀ m : Nat, nDigits m ≤ m + 1 := by
            intro m
            induction m using Nat.strongRecOn with
            | ind m im =>
              by_cases c2 : m < 10
              · rw [nDigits_small c2]; omega
              · rw [nDigits_big c2]; have := im (m / 10) (by omega); omega
          have := h1 (u / 10)
          omega
        show (decDigits (u / 10)).toArray.size + 1 ≤ _
        rw [List.size_toArray]
        omega
      · congr 1
        apply ByteArray.ext
        rw [ByteArray.data_append]
        show (decDigits (u / 10)).toArray ++ #[UInt8.ofNat (48 + u % 10)] = (decDigits u).toArray
        conv => rhs; rw [decDigits, dif_neg c]
        simp
theorem impl_dec (n : Int) (h : 0 ≤ n ∧ n ≤ 1000) (k : Nat) : impl_decimal.f k n = some (numText n) := by
  unfold impl_decimal.f
  rw [if_pos h]
  rfl
theorem spec_dec (n : Int) (h : 0 ≤ n ∧ n ≤ 1000) : Ev (fun k => spec_Decimal.f k n) (numText n) := by
  obtain ⟨u, rfl⟩ := Int.eq_ofNat_of_zero_le h.1
  exact dec_ev u (by omega)
/-- A number's text is short. -/
theorem numText_size (n : Int) (h : 0 ≤ n ∧ n ≤ 1000) : (numText n).size ≤ 21 := by
  have := itoa_length_le n (by omega) (by omega)
  show (Lib.itoa n).toArray.size ≤ 21
  rw [List.size_toArray]
  exact this
/-- A piece's text. -/
def pieceText (p : S35) : ByteArray := ((((numText (wrap64 p.f0)) ++ (⟨#[47]⟩ : ByteArray)) ++ numText (wrap64 p.f1)) ++ (⟨#[64]⟩ : ByteArray)) ++ numText (wrap64 p.f2)
theorem okPiece_in (p : S35) (h : okPiece p = true) : (0 ≤ wrap64 p.f0 ∧ wrap64 p.f0 ≤ 1000) ∧ (0 ≤ wrap64 p.f1 ∧ wrap64 p.f1 ≤ 1000) ∧ (0 ≤ wrap64 p.f2 ∧ wrap64 p.f2 ≤ 1000) := by
  unfold okPiece at h
  simp only [Bool.and_eq_true, decide_eq_true_eq] at h
  omega
theorem lit_size (b : UInt8) : (⟨#[b]⟩ : ByteArray).size = 1 := rfl
theorem pieceText_size (p : S35) (h : okPiece p = true) : (pieceText p).size ≤ 65 := by
  obtain ⟨a, b, c⟩ := okPiece_in p h
  have := numText_size _ a
  have := numText_size _ b
  have := numText_size _ c
  unfold pieceText
  simp only [ByteArray.size_append, lit_size]
  omega
def wordsTo (l : List S35) : Nat → List ByteArray
  | 0 => []
  | i + 1 => wordsTo l i ++ [pieceText (rd_T35 l (i : Int))]
theorem wordsTo_len (l : List S35) : ∀ i, (wordsTo l i).length = i
  | 0 => rfl
  | i + 1 => by rw [wordsTo, List.length_append, wordsTo_len l i]; rfl
def textTo (l : List S35) : Nat → ByteArray
  | 0 => ⟨#[]⟩
  | i + 1 => if i = 0 then textTo l i ++ pieceText (rd_T35 l (i : Int)) else (textTo l i ++ (⟨#[32]⟩ : ByteArray)) ++ pieceText (rd_T35 l (i : Int))
theorem textTo_size (l : List S35) (h : ∀ p ∈ l, okPiece p = true) : ∀ i, i ≤ l.length → (textTo l i).size ≤ 66 * i
  | 0, _ => Nat.le_refl _
  | i + 1, hi => by
    have ih := textTo_size l h i (by omega)
    have hp := pieceText_size (rd_T35 l (i : Int)) (by rw [rd35_lt l i (by omega)]; exact h _ (List.getElem_mem _))
    rw [textTo]
    split <;> simp only [ByteArray.size_append, lit_size] <;> omega
theorem join_snoc (ws : List ByteArray) (w : ByteArray) (h : ws ≠ []) : Lib.join ((ws ++ [w]).map (·.data.toList)) [32] = Lib.join (ws.map (·.data.toList)) [32] ++ [32] ++ w.data.toList := by
  cases ws with
  | nil => exact absurd rfl h
  | cons x r =>
    rw [List.cons_append, List.map_cons, List.map_cons, join_cons, join_cons]
    unfold joinTail
    simp
theorem text_words (l : List S35) : ∀ i, (textTo l i).data.toList = Lib.join ((wordsTo l i).map (·.data.toList)) [32]
  | 0 => rfl
  | i + 1 => by
    have ih := text_words l i
    rw [textTo, wordsTo]
    by_cases c : i = 0
    · subst c
      rw [if_pos rfl]
      rw [ByteArray.data_append, Array.toList_append]
      show ([] : List UInt8) ++ _ = Lib.join [_] _
      rw [join_one, List.nil_append]
    · rw [if_neg c, join_snoc _ _ (by intro e; have := wordsTo_len l i; rw [e] at this; exact c this.symm), ← ih]
      rw [ByteArray.data_append, ByteArray.data_append, Array.toList_append, Array.toList_append]
theorem specTextLoop_ev (l : List S35) (h8 : l.length ≤ 8) (h : ∀ p ∈ l, okPiece p = true) : ∀ d i : Nat, i + d = l.length → Ev (fun k => spec_l07Text.l0 k l (textTo l i) (i : Int)) (textTo l l.length)
  | 0, i, hi => by
    obtain rfl : i = l.length := by omega
    refine Ev.step (fun k => by rw [spec_l07Text.l0]) (Ev.ite_f (by omega) ?_)
    exact Ev.const rfl
  | d + 1, i, hi => by
    have ih := specTextLoop_ev l h8 h d (i + 1) (by omega)
    have hok := h (rd_T35 l (i : Int)) (by rw [rd35_lt l i (by omega)]; exact List.getElem_mem _)
    obtain ⟨a, b, c⟩ := okPiece_in _ hok
    have s0 := numText_size _ a
    have s1 := numText_size _ b
    have s2 := numText_size _ c
    have sz := textTo_size l h i (by omega)
    have hw : wrap64 ((i : Int) + 1) = ((i + 1 : Nat) : Int) := by rw [w64 _ (by omega) (by omega)]; rfl
    have e0 := spec_dec _ a
    have e1 := spec_dec _ b
    have e2 := spec_dec _ c
    rw [textTo] at ih
    unfold pieceText at ih
    clear hok a b c
    have HW := hw
    clear hw
    refine Ev.step (fun k => by rw [spec_l07Text.l0]) (Ev.ite_t (by omega) ?_)
    generalize numText (wrap64 (rd_T35 l (i : Int)).f0) = A at s0 e0 ih
    generalize numText (wrap64 (rd_T35 l (i : Int)).f1) = B at s1 e1 ih
    generalize numText (wrap64 (rd_T35 l (i : Int)).f2) = C at s2 e2 ih
    generalize textTo l i = X at sz ih ⊢
    by_cases c0 : i = 0
    · rw [if_pos c0] at ih
      refine Ev.ite_f (by omega) ?_
      refine Ev.ite_t (by omega) ?_
      refine Ev.bind e0 ?_
      refine Ev.ite_t (by omega) ?_
      refine Ev.bind e1 ?_
      refine Ev.ite_t (by simp only [ByteArray.size_append, lit_size]; omega) ?_
      refine Ev.ite_t (by simp only [ByteArray.size_append, lit_size]; omega) ?_
      refine Ev.bind e2 ?_
      refine Ev.ite_t (by simp only [ByteArray.size_append, lit_size]; omega) ?_
      refine Ev.ite_t (by simp only [ByteArray.size_append, lit_size]; omega) ?_
      rw [HW]
      exact ih
    · rw [if_neg c0] at ih
      refine Ev.ite_t (by omega) ?_
      refine Ev.ite_t (by omega) ?_
      refine Ev.ite_t (by omega) ?_
      refine Ev.bind e0 ?_
      refine Ev.ite_t (by omega) ?_
      refine Ev.bind e1 ?_
      refine Ev.ite_t (by simp only [ByteArray.size_append, lit_size]; omega) ?_
      refine Ev.ite_t (by simp only [ByteArray.size_append, lit_size]; omega) ?_
      refine Ev.bind e2 ?_
      refine Ev.ite_t (by simp only [ByteArray.size_append, lit_size]; omega) ?_
      refine Ev.ite_t (by simp only [ByteArray.size_append, lit_size]; omega) ?_
      rw [HW]
      exact ih
theorem implTextLoop_ev (l : List S35) (h8 : l.length ≤ 8) (h : ∀ p ∈ l, okPiece p = true) : ∀ d i : Nat, i + d = l.length → Ev (fun k => impl_PiecesText.l0 k (wordsTo l i) l (l.length : Int) (i : Int)) (textTo l l.length)
  | 0, i, hi => by
    obtain rfl : i = l.length := by omega
    refine Ev.step (fun k => by rw [impl_PiecesText.l0]) (Ev.ite_f (by omega) (Ev.const ?_))
    have e := text_words l l.length
    have sz := textTo_size l h l.length (Nat.le_refl _)
    have hl : (Lib.join ((wordsTo l l.length).map (·.data.toList)) [32]).length ≤ 1000000 := by
      rw [← e]
      show (textTo l l.length).data.size ≤ _
      have : (textTo l l.length).data.size = (textTo l l.length).size := rfl
      omega
    unfold joined
    rw [if_pos ⟨by rw [wordsTo_len]; omega, hl⟩]
    congr 1
    apply ByteArray.ext
    show (Lib.join ((wordsTo l l.length).map (·.data.toList)) [32]).toArray = (textTo l l.length).data
    rw [← e]
  | d + 1, i, hi => by
    have ih := implTextLoop_ev l h8 h d (i + 1) (by omega)
    have hok := h (rd_T35 l (i : Int)) (by rw [rd35_lt l i (by omega)]; exact List.getElem_mem _)
    obtain ⟨a, b, c⟩ := okPiece_in _ hok
    have s0 := numText_size _ a
    have s1 := numText_size _ b
    have s2 := numText_size _ c
    have hw : wrap64 ((i : Int) + 1) = ((i + 1 : Nat) : Int) := by rw [w64 _ (by omega) (by omega)]; rfl
    have e0 := impl_dec _ a
    have e1 := impl_dec _ b
    have e2 := impl_dec _ c
    rw [wordsTo] at ih
    unfold pieceText at ih
    have hwl := wordsTo_len l i
    clear hok a b c
    have HW := hw
    clear hw
    refine Ev.step (fun k => by rw [impl_PiecesText.l0]) (Ev.ite_t (by omega) ?_)
    generalize numText (wrap64 (rd_T35 l (i : Int)).f0) = A at s0 e0 ih
    generalize numText (wrap64 (rd_T35 l (i : Int)).f1) = B at s1 e1 ih
    generalize numText (wrap64 (rd_T35 l (i : Int)).f2) = C at s2 e2 ih
    generalize wordsTo l i = X at hwl ih ⊢
    refine Ev.ite_t (by omega) ?_
    refine Ev.ite_t (by omega) ?_
    refine Ev.bind (Ev.fixed e0) ?_
    refine Ev.ite_t (by omega) ?_
    refine Ev.bind (Ev.fixed e1) ?_
    refine Ev.ite_t (by simp only [ByteArray.size_append, lit_size]; omega) ?_
    refine Ev.ite_t (by simp only [ByteArray.size_append, lit_size]; omega) ?_
    refine Ev.bind (Ev.fixed e2) ?_
    refine Ev.ite_t (by simp only [ByteArray.size_append, lit_size]; omega) ?_
    refine Ev.ite_t (by omega) ?_
    rw [HW]
    exact ih
theorem PiecesText_both (l : List S35) (hm : l.length ≤ 1048576) : ∃ r, Ev (fun k => spec_PiecesText.f k l) r ∧ Ev (fun k => impl_PiecesText.f k l) r := by
  have hs := asked_ev 0 0 l (by omega)
  have hi := pieceCode_ev l
  have hz : codeIron 0 0 l = codeOf l := by unfold codeIron; rw [if_pos (by unfold okIron; rw [w64 0 (by omega) (by omega)]; rfl)]
  by_cases c : codeOf l = 0
  · obtain ⟨_, h8, hok⟩ := code_zero 0 0 l (hz.trans c)
    rw [hz, c] at hs
    rw [c] at hi
    refine ⟨textTo l l.length, ?_, ?_⟩
    · exact Ev.bind hs (Ev.ite_t rfl (Ev.bind (specTextLoop_ev l h8 hok l.length 0 (by omega)) (Ev.const rfl)))
    · exact Ev.bind hi (Ev.ite_t rfl (implTextLoop_ev l h8 hok l.length 0 (by omega)))
  · refine ⟨⟨#[]⟩, ?_, ?_⟩
    · rw [hz] at hs
      exact Ev.bind hs (Ev.ite_f c (Ev.const rfl))
    · exact Ev.bind hi (Ev.ite_f c (Ev.const rfl))

end Go.Proofs.YthkccaclmodjiaaDoor.D
