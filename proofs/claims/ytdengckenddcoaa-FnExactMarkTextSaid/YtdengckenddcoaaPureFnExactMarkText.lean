/- The program's MarkText answers as the reference's for every number of stitches and every mark. No condition. -/
import Derived.Test.YtdengckenddcoaaX2
namespace Go.Proofs.Ytdengckenddcoaa.Pure
open Go.RowKit Go.Proofs.Ytdengckenddcoaa.X Go.Proofs.YtdengckenddcoaaW.PrintWords Go.Proofs.YtdengckenddcoaaW.PrintLast
set_option linter.unusedSimpArgs false
set_option linter.unusedVariables false

theorem snoc (l : List Int) (c : Int) (u : UInt8) (hu : UInt8.ofNat c.toNat = u) : strOfNums (l ++ [c]) = strOfNums l ++ (⟨#[u]⟩ : ByteArray) := by
  apply ByteArray.ext
  simp [strOfNums, hu, ByteArray.data_append]
theorem empty_bytes : strOfNums [] = (⟨#[]⟩ : ByteArray) := rfl
theorem both (n m : Int) (hn0 : 0 ≤ n) (hn : n ≤ 12) (h0 : 0 ≤ m) (h1 : m < 65536) : ∀ (d : Nat) (i : Int) (l : List Int), 0 ≤ i → n - i = d → (l.length : Int) ≤ i →
    ∃ r, spec_l06Text.l0 (d + 1) n m (strOfNums l) i = some r ∧ impl_MarkText.l0 (d + 1) m l n i = some r
  | 0, i, l, hi, hd, hl => by
    refine ⟨strOfNums l, ?_, ?_⟩
    · rw [spec_l06Text.l0]; rw [if_neg (by omega)]
    · rw [impl_MarkText.l0]; rw [if_neg (by omega)]
  | d + 1, i, l, hi, hd, hl => by
    have e : IntKind.u64.wrap i = i := IntWalk.u64_in _ ⟨by omega, by omega⟩
    have hw : wrap64 (i + 1) = i + 1 := IntWalk.wrap64_in _ ⟨by omega, by omega⟩
    have hq0 : 0 ≤ shr .u16 m i := by unfold shr; exact Int.ediv_nonneg h0 (Int.le_of_lt (Int.pow_pos (by decide)))
    have hq1 : shr .u16 m i ≤ m := by unfold shr; exact Int.ediv_le_self _ h0
    have ht : Int.tmod (shr .u16 m i) 2 = shr .u16 m i % 2 := Int.tmod_eq_emod_of_nonneg hq0
    have hm : Go.bits .and .u16 (shr .u16 m i) 1 = shr .u16 m i % 2 := bits_mask .u16 16 (by decide) (fun m a b => IntWalk.u16_in m ⟨a, by omega⟩) 1 (by decide) _ hq0 (by simp; omega)
    have hsz : (strOfNums l).size = l.length := strOfNums_size l
    by_cases c : shr .u16 m i % 2 = 1
    · obtain ⟨r, a, b⟩ := both n m hn0 hn h0 h1 d (i + 1) (l ++ [43]) (by omega) (by omega) (by simp; omega)
      rw [snoc l 43 43 rfl] at a
      refine ⟨r, ?_, ?_⟩
      · rw [spec_l06Text.l0]
        rw [if_pos (by omega), e, if_pos hi, ht, if_pos c, if_pos (by rw [hsz]; omega), hw]
        exact a
      · rw [impl_MarkText.l0]
        rw [if_pos (by omega), if_pos hi, hm, if_pos c, if_pos (by omega), hw]
        exact b
    · obtain ⟨r, a, b⟩ := both n m hn0 hn h0 h1 d (i + 1) (l ++ [46]) (by omega) (by omega) (by simp; omega)
      rw [snoc l 46 46 rfl] at a
      refine ⟨r, ?_, ?_⟩
      · rw [spec_l06Text.l0]
        rw [if_pos (by omega), e, if_pos hi, ht, if_neg c, if_pos (by rw [hsz]; omega), hw]
        exact a
      · rw [impl_MarkText.l0]
        rw [if_pos (by omega), if_pos hi, hm, if_neg c, if_pos (by omega), hw]
        exact b

theorem FnExactMarkText : laws_FnExactMarkText.Pure := by
  intro n m h0 h1
  have hb : 0 ≤ m ∧ m < 65536 := by
    have h := h1
    simp [Lit.wf, IntKind.min, IntKind.max, IntKind.bits, IntKind.signed] at h
    omega
  refine ⟨n.toNat + 1, ?_⟩
  unfold laws_FnExactMarkText.f spec_MarkText.f impl_MarkText.f impl_ValidMark.f spec_l06Ok.f impl_areStitches.f impl_within.f spec_l06Many.f spec_l00In.f spec_l06Text.f
  by_cases c1 : 1 ≤ n
  · by_cases c2 : n ≤ 12
    · have e : IntKind.u64.wrap n = n := IntWalk.u64_in _ ⟨by omega, by omega⟩
      obtain ⟨r, a, b⟩ := both n m (by omega) c2 hb.1 hb.2 n.toNat 0 [] (by omega) (by omega) (by simp)
      rw [empty_bytes] at a
      by_cases c3 : shr .u16 m n = 0
      · simp [c1, c2, e, c3, show 0 ≤ n by omega, a, b]
      · simp [c1, c2, e, c3, show 0 ≤ n by omega]
    · simp [c1, c2]
  · simp [c1]

end Go.Proofs.Ytdengckenddcoaa.Pure
