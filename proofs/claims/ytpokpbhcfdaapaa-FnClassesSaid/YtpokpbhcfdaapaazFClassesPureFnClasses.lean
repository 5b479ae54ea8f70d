import Derived.Test.YtpokpbhcfdaapaazFClassesEEvLoop
import Derived.Test.YtpokpbhcfdaapaazFClassesEMFine
import Derived.Test.YtpokpbhcfdaapaazFClassesEMFine2
import Derived.Test.YtpokpbhcfdaapaazFClassesEMLem
import Derived.Test.YtpokpbhcfdaapaazFClassesEMLem2
import Derived.Test.YtpokpbhcfdaapaazFClassesEMLem3
import Derived.Test.YtpokpbhcfdaapaazFClassesEMLem4a
import Derived.Test.YtpokpbhcfdaapaazFClassesEMLem5
import Derived.Test.YtpokpbhcfdaapaazFClassesEMarkCode
import Derived.Test.YtpokpbhcfdaapaazFClassesM0
import Derived.Test.YtpokpbhcfdaapaazFClassesM13
import Derived.Test.YtpokpbhcfdaapaazFClassesM14
import Derived.Test.YtpokpbhcfdaapaazFClassesM19
import Derived.Test.YtpokpbhcfdaapaazFClassesM20
import Derived.Test.YtpokpbhcfdaapaazFClassesM21
namespace Go.Proofs.Ytpokpbhcfdaapaa.Pure
open Go.RowKit Go.Proofs.Ytpokpbhcfdaapaa.M Go.Proofs.YtpokpbhcfdaapaaW.PrintWords Go.Proofs.YtpokpbhcfdaapaaW.PrintLast Go.Proofs.YtpokpbhcfdaapaaW.PrintMore
set_option linter.unusedVariables false
set_option linter.unusedSimpArgs false
structure Few (n : Nat) : Prop where
  bd : 2 ≤ n ∧ n ≤ 7
  seen : chkSeen n = true
  mend : chkMend n = true
  size : chkSize n = true
theorem few (n : Nat) (h : 2 ≤ n ∧ n ≤ 7) : Few n := by
  obtain ⟨a2, a3, a4, a5, a6, a7⟩ := chkSeen_all
  obtain ⟨b2, b3, b4, b5, b6, b7⟩ := chkMend_all
  obtain ⟨c2, c3, c4, c5, c6, c7⟩ := chkSize_all
  have e : n = 2 ∨ n = 3 ∨ n = 4 ∨ n = 5 ∨ n = 6 ∨ n = 7 := by omega
  rcases e with rfl | rfl | rfl | rfl | rfl | rfl
  · exact ⟨h, a2, b2, c2⟩
  · exact ⟨h, a3, b3, c3⟩
  · exact ⟨h, a4, b4, c4⟩
  · exact ⟨h, a5, b5, c5⟩
  · exact ⟨h, a6, b6, c6⟩
  · exact ⟨h, a7, b7, c7⟩
theorem Few.mended {n : Nat} (F : Few n) (m : Nat) (hm : m < 2 ^ n) (s : Int) (hs : s ∈ seenOf (m : Int) 12) : mendN n (classOf n (m : Int)) s = ((m : Int), 0) := by
  have h := List.all_eq_true.mp F.seen m (List.mem_range.mpr hm)
  exact of_decide_eq_true (List.all_eq_true.mp h s hs)
theorem Few.mend2 {n : Nat} (F : Few n) (m : Nat) (hm : m < 2 ^ n) (k : Nat) (hk : k ≤ n) (h0 : (mendN n k m).2 = 0) :
    classOf n (mendN n k m).1 = k ∧ okMark n (mendN n k m).1 = true ∧ sumBits (Go.bits .xor .u16 (mendN n k m).1 m) 16 ≤ 1 ∧ Go.bits .andNot .u16 m (mendN n k m).1 = 0 ∧ 0 ≤ (mendN n k m).1 := by
  have h := List.all_eq_true.mp (List.all_eq_true.mp F.mend m (List.mem_range.mpr hm)) k (List.mem_range.mpr (by omega))
  rw [decide_eq_false (show ¬ (mendN n k m).2 ≠ 0 by simp [h0]), Bool.false_or] at h
  simp only [Bool.and_eq_true, decide_eq_true_eq] at h
  exact ⟨h.1.1.1.1, h.1.1.1.2, h.1.1.2, h.1.2, h.2⟩
theorem Few.sizes {n : Nat} (F : Few n) : (∀ k : Nat, k ≤ n → classSize n k ≤ 40 ∧ classSize n k ≤ (bestUp n n).2 ∧ ((k : Int) < (bestUp n n).1 → classSize n k ≠ (bestUp n n).2) ∧ ((k : Int) = (bestUp n n).1 → classSize n k = (bestUp n n).2)) ∧ 1 ≤ (bestUp n n).2 ∧ sizesTo n (n + 1) = 2 ^ n := by
  have h := F.size
  unfold chkSize at h
  rw [Bool.and_eq_true, Bool.and_eq_true] at h
  refine ⟨fun k hk => ?_, of_decide_eq_true h.1.2, of_decide_eq_true h.2⟩
  have g := List.all_eq_true.mp h.1.1 k (List.mem_range.mpr (by omega))
  simp only [Bool.and_eq_true, Bool.or_eq_true, decide_eq_true_eq] at g
  obtain ⟨⟨⟨g1, g2⟩, g3⟩, g4⟩ := g
  exact ⟨g1, g2, fun q => g3.resolve_left (fun h => h q), fun q => g4.resolve_left (fun h => h q)⟩
theorem pow_7 (n : Nat) (h : n ≤ 7) : (2 : Nat) ^ n ≤ 128 := Nat.pow_le_pow_right (by decide) h
theorem Few.ok {n : Nat} (F : Few n) (m : Nat) (hm : m < 2 ^ n) : okMark n (m : Int) = true := by
  have := F.bd
  rw [okMark_iff _ _ (by omega)]
  refine ⟨by omega, by omega, ?_⟩
  rw [Int.toNat_natCast]
  have := pow_nat n
  omega
theorem Few.apart {n : Nat} (F : Few n) (k : Nat) : Apart (classList n k (2 ^ n)) := by
  intro a b hab hb
  have hp := List.pairwise_iff_getElem.mp (classList_sorted n k (2 ^ n)) a b (by omega) hb hab
  obtain ⟨x, hx, ex, cx⟩ := (classList_mem n k (2 ^ n) _).mp (List.getElem_mem (show a < (classList n k (2 ^ n)).length by omega))
  obtain ⟨y, hy, ey, cy⟩ := (classList_mem n k (2 ^ n) _).mp (List.getElem_mem hb)
  rw [ex, ey] at hp ⊢
  cases hq : meets (x : Int) (y : Int) with
  | false => rfl
  | true =>
    exfalso
    unfold meets at hq
    obtain ⟨s, hs, hc⟩ := List.any_eq_true.mp hq
    have h1 := F.mended x hx s hs
    have h2 := F.mended y hy s (List.contains_iff_mem.mp hc)
    rw [cx] at h1
    rw [cy] at h2
    have := congrArg Prod.fst (h1.symm.trans h2)
    dsimp only at this
    omega
theorem Few.marks {n : Nat} (F : Few n) (k : Nat) (hk : k ≤ n) : classMarks n k = (classList n k (2 ^ n), 0) := by
  have := F.bd
  have hs := (F.sizes.1 k hk).1
  unfold classSize at hs
  unfold classMarks
  rw [if_pos (by omega), if_pos (by omega), Int.toNat_natCast, if_neg (by omega)]
theorem Few.check {n : Nat} (F : Few n) (k : Nat) (hk : k ≤ n) : Ev (fun q => impl_CheckMarks.f q n (classList n k (2 ^ n))) (true, 0) := by
  have hB := F.bd
  have hs := (F.sizes.1 k hk).1
  unfold classSize at hs
  have hv : ∀ m ∈ classList n k (2 ^ n), 0 ≤ m ∧ m < 65536 := by
    intro m hm
    obtain ⟨j, hj, rfl, _⟩ := (classList_mem n k (2 ^ n) m).mp hm
    have := pow_7 n hB.2
    omega
  have hl : listCode n (classList n k (2 ^ n)) = 0 := by
    unfold listCode
    rw [if_pos (by omega), if_neg, if_neg (by omega)]
    intro h
    obtain ⟨m, hm, hk⟩ := List.any_eq_true.mp h
    obtain ⟨j, hj, rfl, _⟩ := (classList_mem n _ (2 ^ n) m).mp hm
    rw [F.ok j hj] at hk
    exact absurd hk (by decide)
  exact implCheck_ev n _ hv hl (F.apart k)
theorem seen_self (m : Int) : ∀ n, m ∈ seenOf m n
  | 0 => List.mem_singleton.mpr rfl
  | n + 1 => by
    have := seen_self m n
    unfold seenOf
    split
    · exact List.mem_append_left _ this
    · exact this
theorem seen_all (m : Int) (h0 : 0 ≤ m) (h1 : m < 65536) : ∀ n, ∀ s ∈ seenOf m n, 0 ≤ s ∧ s < 65536
  | 0, s, hs => by rw [seenOf, List.mem_singleton] at hs; subst hs; exact ⟨h0, h1⟩
  | n + 1, s, hs => by
    have ih := seen_all m h0 h1 n
    unfold seenOf at hs
    split at hs
    · rcases List.mem_append.mp hs with hs | hs
      · exact ih s hs
      · rw [List.mem_singleton] at hs
        subst hs
        exact bits_u16_bd _ _ _
    · exact ih s hs
theorem seen_small (m : Nat) (hm : m ≤ 128) (s : Int) (hs : s ∈ seenOf (m : Int) 12) : 0 ≤ s ∧ s < 65536 := seen_all _ (by omega) (by omega) 12 s hs
theorem u8_bd {x : Int} (h : (Lit.int .u8 x).wf = true) : 0 ≤ x ∧ x < 256 := by
  simp [Lit.wf, IntKind.min, IntKind.max, IntKind.bits, IntKind.signed] at h
  omega
theorem rd_u8 (l : List Int) (i : Nat) (h : i < l.length) (hw : ∀ x ∈ l, (Lit.int .u8 x).wf = true) : 0 ≤ rd l (i : Int) ∧ rd l (i : Int) < 256 := by
  rw [rd_of_lt l i h]
  exact u8_bd (hw _ (List.getElem_mem h))
theorem at_f (l : List Int) (i : Nat) (q : Int) (hq : 1 ≤ q) (hi : i ≤ 1000) (hq2 : q ≤ 1000) (hw : ∀ x ∈ l, (Lit.int .u8 x).wf = true) : ∃ t, laws_a2At.f l i q = some t ∧ 0 ≤ t ∧ t < q := by
  unfold laws_a2At.f
  by_cases c : (i : Int) ≥ (l.length : Int)
  · exact ⟨0, by rw [if_pos c], by omega, by omega⟩
  · have hb := rd_u8 l i (by omega) hw
    refine ⟨Int.tmod (rd l i) q, by rw [if_neg c, if_neg (by omega), if_pos (by omega), if_pos (by omega), if_neg (by omega), w64 _ (by omega) (by omega)], ?_, ?_⟩
    · rw [Int.tmod_eq_emod_of_nonneg hb.1]; exact Int.emod_nonneg _ (by omega)
    · rw [Int.tmod_eq_emod_of_nonneg hb.1]; exact Int.emod_lt_of_pos _ (by omega)
theorem next_f (l : List Int) (i : Nat) (hi : i ≤ 100000) (x : Int) : ∃ r y, spec_l00Src_next.f l (i : Int) x = some (r, ((i + 1 : Nat) : Int), y) := by
  unfold spec_l00Src_next.f
  rw [show wrap64 ((i : Int) + 1) = ((i + 1 : Nat) : Int) by rw [w64 _ (by omega) (by omega)]; rfl]
  by_cases c : (i : Int) < (l.length : Int)
  · rw [if_pos c, if_pos (by omega), if_pos (by omega)]
    exact ⟨_, _, rfl⟩
  · rw [if_neg c, if_neg (by omega)]
    exact ⟨_, _, rfl⟩
theorem a2mark_f (l : List Int) (n : Nat) (hn : n ≤ 12) : ∃ t, spec_A2Mark.f l (n : Int) = some t ∧ 0 ≤ t ∧ t < 2 ^ n := by
  obtain ⟨r1, y1, h1⟩ := next_f l 0 (by omega) 0
  obtain ⟨r2, y2, h2⟩ := next_f l 1 (by omega) y1
  have hp : spec_l00Src_pick.f l 0 0 65536 = some (Int.tmod (wrap64 ((wrap64 (r1 * 256)) + r2)) 65536, ((1 + 1 : Nat) : Int), y2) := by
    unfold spec_l00Src_pick.f
    rw [if_neg (by decide), show spec_l00Src_next.f l 0 0 = _ from h1, Option.bind_some, if_pos (by decide), show spec_l00Src_next.f l ((0 + 1 : Nat) : Int) y1 = _ from h2, Option.bind_some, if_neg (by decide)]
  have hW := wrap_u16_bd (Int.tmod (wrap64 ((wrap64 (r1 * 256)) + r2)) 65536)
  have hA := and_low _ hW n hn
  refine ⟨_, ?_, hA⟩
  unfold spec_A2Mark.f spec_l00From.f
  rw [Option.bind_some, hp, Option.bind_some, u64_nat n (by omega), if_pos (by omega)]
  have hs : IntKind.u16.wrap (shl .u16 1 (n : Int) - 1) = (2 : Int) ^ n - 1 := by
    have : ∀ q : Fin 13, IntKind.u16.wrap (shl .u16 1 ((q.val : Nat) : Int) - 1) = (2 : Int) ^ q.val - 1 := by decide +kernel
    exact this ⟨n, by omega⟩
  rw [hs]
theorem contains_class {n : Nat} (F : Few n) (k : Nat) (m : Nat) (hm : m < 2 ^ n) : ((classList n k (2 ^ n)).contains (m : Int) != ((k : Int) == classOf n (m : Int))) = false := by
  have e : (classList n k (2 ^ n)).contains (m : Int) = ((k : Int) == classOf n (m : Int)) := by
    rw [Bool.eq_iff_iff, List.contains_iff_mem, classList_mem, beq_iff_eq]
    constructor
    · rintro ⟨j, h1, h2, h3⟩
      obtain rfl : m = j := by omega
      exact h3.symm
    · intro h
      exact ⟨m, hm, rfl, h.symm⟩
  rw [e]
  simp
theorem loop_ev {n : Nat} (F : Few n) (m : Nat) (hm : m < 2 ^ n) (seen : List Int) (hseen : 0 < seen.length) (d : Nat) : ∀ k : Nat, k + d = n + 1 →
    Ev (fun q => laws_FnClasses.l1 q n m (classOf n m) (bestUp n n).1 (bestUp n n).2 seen 0 (sizesTo n k) k) true := by
  have hB := F.bd
  obtain ⟨hS, hbest, hsum⟩ := F.sizes
  have hp7 := pow_7 n hB.2
  have hpn := pow_nat n
  induction d with
  | zero =>
    intro k hk
    obtain rfl : k = n + 1 := by omega
    refine Ev.step (fun q => by rw [laws_FnClasses.l1]) (Ev.ite_f (by omega) ?_)
    refine Ev.ite_t rfl (Ev.ite_t (by omega) ?_)
    rw [u64_nat n (by omega)]
    refine Ev.ite_t (by omega) ?_
    rw [hsum, shl_one n (by omega)]
    exact Ev.const (by simp)
  | succ d ih =>
    intro k hk
    have next := ih (k + 1) (by omega)
    obtain ⟨s1, s2, s3, s4⟩ := hS k (by omega)
    obtain ⟨hs, hi⟩ := ClassMarks_both n k
    rw [F.marks k (by omega)] at hs hi
    have hlen : ((classList n k (2 ^ n)).length : Int) = classSize n k := rfl
    have hsm := sameMarks_ev (classList n k (2 ^ n)) (by omega)
    have hhas : Ev (fun q => spec_A2HasMark.f q (classList n k (2 ^ n)) m) ((classList n k (2 ^ n)).contains (m : Int)) := Ev.bind (has_ev _ _ (by omega)) (Ev.const rfl)
    have hcc := contains_class F k m hm
    have hok := F.ok m hm
    have hsz : sizesTo n (k + 1) = sizesTo n k + classSize n k := rfl
    have hnn : 0 ≤ sizesTo n k ∧ sizesTo n k ≤ 4000 := by
      have : ∀ j, j ≤ n + 1 → 0 ≤ sizesTo n j ∧ sizesTo n j ≤ 40 * j := by
        intro j
        induction j with
        | zero => intro _; exact ⟨Int.le_refl _, Int.le_refl _⟩
        | succ j ij =>
          intro hj
          have h1 := ij (by omega)
          have h2 := (hS j (by omega)).1
          have h3 : 0 ≤ classSize n j := by unfold classSize; omega
          have h4 : sizesTo n (j + 1) = sizesTo n j + classSize n j := rfl
          omega
      have := this k (by omega)
      omega
    have h3 : 0 ≤ classSize n k := by unfold classSize; omega
    -- behind the tests of the class
    have J : Ev (fun q => laws_FnClasses.j3 q n m (classOf n m) (bestUp n n).1 (bestUp n n).2 seen 0 (sizesTo n k) k (classList n k (2 ^ n)) false) true := by
      refine Ev.step (fun q => by rw [laws_FnClasses.j3]) (Ev.ite_f (by decide) ?_)
      refine Ev.bind (implMend_ev n k m (by omega) (by omega)) (Ev.bind (specMend_ev n k m (by omega) (by omega)) ?_)
      refine Ev.ite_t rfl ?_
      rw [bne_self_eq_false, hlen, w64 (sizesTo n k + classSize n k) (by omega) (by omega), ← hsz]
      refine Ev.step (fun q => by rw [laws_FnClasses.j4]) (Ev.ite_f (by decide) ?_)
      have hw : wrap64 ((k : Int) + 1) = ((k + 1 : Nat) : Int) := by rw [w64 _ (by omega) (by omega)]; rfl
      by_cases h0 : (mendN n k m).2 = 0
      · obtain ⟨g1, g2, g3, g4, g5⟩ := F.mend2 m hm k (by omega) h0
        refine Ev.ite_t h0 (Ev.bind (implClassOf_ev n _ g5 g2) (Ev.bind (Ev.const (apartBy_f n _ m g2 hok)) ?_))
        refine Ev.ite_t rfl (Ev.ite_t g1 (Ev.ite_t rfl (Ev.ite_f (by dsimp only; omega) (Ev.ite_t g4 ?_))))
        rw [hw]
        exact next
      · refine Ev.ite_f h0 ?_
        rw [hw]
        exact next
    refine Ev.step (fun q => by rw [laws_FnClasses.l1]) (Ev.ite_t (by omega) ?_)
    refine Ev.bind hi (Ev.bind hs (Ev.bind (F.check k (by omega)) (Ev.ite_t rfl (Ev.ite_t rfl (Ev.bind hsm (Ev.ite_t rfl (Ev.ite_t rfl (Ev.ite_t rfl (Ev.ite_f (by dsimp only; omega) ?_)))))))))
    have H : Ev (fun q => (spec_A2HasMark.f q (classList n k (2 ^ n)) m).bind fun t => laws_FnClasses.j3 q n m (classOf n m) (bestUp n n).1 (bestUp n n).2 seen 0 (sizesTo n k) k (classList n k (2 ^ n)) (t != ((k : Int) == classOf n m))) true := by
      refine Ev.bind hhas ?_
      rw [hcc]
      exact J
    by_cases c1 : (k : Int) < (bestUp n n).1
    · refine Ev.ite_t c1 (Ev.ite_f (s3 c1) (Ev.ite_f (by omega) ?_))
      exact H
    · refine Ev.ite_f c1 ?_
      by_cases c2 : (k : Int) = (bestUp n n).1
      · refine Ev.ite_t c2 (Ev.ite_t (s4 c2) ?_)
        exact H
      · refine Ev.ite_f c2 ?_
        exact H
theorem seenLoop_ev {n : Nat} (F : Few n) (m : Nat) (hm : m < 2 ^ n) (d : Nat) : ∀ i : Nat, i + d = (seenOf (m : Int) 12).length →
    Ev (fun q => laws_FnClasses.l0 q n m (classOf n m) (bestUp n n).1 (bestUp n n).2 (seenOf (m : Int) 12) 0 (i : Int)) true := by
  have hB := F.bd
  have hl := seen_len (m : Int) 12
  induction d with
  | zero =>
    intro i hi
    refine Ev.step (fun q => by rw [laws_FnClasses.l0]) (Ev.ite_f (by omega) ?_)
    exact loop_ev F m hm _ (List.length_pos_of_mem (seen_self (m : Int) 12)) (n + 1) 0 (by omega)
  | succ d ih =>
    intro i hi
    have hr := rd_of_lt (seenOf (m : Int) 12) i (by omega)
    have hmem : rd (seenOf (m : Int) 12) (i : Int) ∈ seenOf (m : Int) 12 := by rw [hr]; exact List.getElem_mem _
    have hv := seen_small m (by have := pow_7 n hB.2; omega) _ hmem
    have he := F.mended m hm _ hmem
    have a := implMend_ev n (classOf n (m : Int)) (rd (seenOf (m : Int) 12) (i : Int)) hv.1 hv.2
    have b := specMend_ev n (classOf n (m : Int)) (rd (seenOf (m : Int) 12) (i : Int)) hv.1 hv.2
    rw [he] at a b
    refine Ev.step (fun q => by rw [laws_FnClasses.l0]) (Ev.ite_t (by omega) ?_)
    refine Ev.ite_t (by omega) (Ev.bind a (Ev.bind b (Ev.ite_t rfl (Ev.ite_t rfl (Ev.ite_t rfl (Ev.ite_t rfl ?_))))))
    rw [show wrap64 ((i : Int) + 1) = ((i + 1 : Nat) : Int) by rw [w64 _ (by omega) (by omega)]; rfl]
    exact ih (i + 1) (by omega)
theorem FnClasses : laws_FnClasses.Pure := by
  intro l0 l1 _ _ hw0 _ _ hw1
  refine Ev.get ?_
  cases hlong : decide ((l0.length : Int) > 3000 ∨ (l1.length : Int) > 3000) with
  | true =>
    have h := of_decide_eq_true hlong
    refine Ev.bind (a := true) (Ev.const ?_) (Ev.ite_t rfl (Ev.const rfl))
    unfold laws_a2Long.f
    by_cases c : (l0.length : Int) > 3000
    · rw [if_pos c]
    · rw [if_neg c, decide_eq_true (h.resolve_left c)]
  | false =>
    have h := of_decide_eq_false hlong
    refine Ev.bind (a := false) (Ev.const ?_) (Ev.ite_f (by decide) ?_)
    · unfold laws_a2Long.f
      rw [if_neg (by omega), decide_eq_false (by omega)]
    obtain ⟨t, ht, hat⟩ := at_f l0 0 6 (by omega) (by omega) (by omega) hw0
    obtain ⟨n, rfl⟩ : ∃ n : Nat, t = (n : Int) := Int.eq_ofNat_of_zero_le hat.1
    refine Ev.bind (Ev.const ht) ?_
    have hn2 : wrap64 (2 + (n : Int)) = ((n + 2 : Nat) : Int) := by rw [w64 _ (by omega) (by omega)]; omega
    rw [hn2]
    have F := few (n + 2) ⟨by omega, by omega⟩
    obtain ⟨x, hx, hx0, hx1⟩ := a2mark_f l1 (n + 2) (by omega)
    obtain ⟨m, rfl⟩ : ∃ m : Nat, x = (m : Int) := Int.eq_ofNat_of_zero_le hx0
    have hm : m < 2 ^ (n + 2) := by have := pow_nat (n + 2); omega
    refine Ev.bind (Ev.const hx) ?_
    have hok := F.ok m hm
    obtain ⟨R, hR, hbs, hbi⟩ := BestClass_both ((n + 2 : Nat) : Int)
    obtain rfl : R = ((bestUp (n + 2) (n + 2)).1, (bestUp (n + 2) (n + 2)).2, 0) := by
      rcases hR with ⟨h1, _⟩ | ⟨_, h2⟩
      · exact absurd (show (1 : Int) ≤ ((n + 2 : Nat) : Int) ∧ ((n + 2 : Nat) : Int) ≤ 12 from ⟨by omega, by omega⟩) h1
      · rw [h2, Int.toNat_natCast]
    have hcb := classN_bd (n + 2) (m : Int)
    refine Ev.bind (implClassOf_ev (n + 2) m (by omega) hok) (Ev.bind (specClassOf_ev (n + 2) m (by omega) hok) (Ev.bind hbi (Ev.bind hbs ?_)))
    refine Ev.ite_t rfl (Ev.ite_t rfl (Ev.ite_t rfl (Ev.ite_f (by dsimp only; omega) (Ev.ite_f (by dsimp only; omega) (Ev.ite_t rfl (Ev.ite_t rfl (Ev.ite_t rfl (Ev.ite_t rfl ?_))))))))
    dsimp only
    rw [decide_eq_false (by have := F.sizes.2.1; omega)]
    refine Ev.step (fun q => by rw [laws_FnClasses.j0]) (Ev.ite_f (by decide) ?_)
    refine Ev.bind (specLostFrom_ev _ m (by omega) hok) ?_
    exact seenLoop_ev F m hm (seenOf (m : Int) 12).length 0 (by omega)
end Go.Proofs.Ytpokpbhcfdaapaa.Pure
