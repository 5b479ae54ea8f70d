import Derived.Test.YtpokpbhcfdaapaazEMissingByEAreWithin
import Derived.Test.YtpokpbhcfdaapaazEMissingByEConcat
import Derived.Test.YtpokpbhcfdaapaazEMissingByEEvLoop
import Derived.Test.YtpokpbhcfdaapaazEMissingByEListsInt64
import Derived.Test.YtpokpbhcfdaapaazEMissingByM0
import Derived.Test.YtpokpbhcfdaapaazEMissingByM1
import Derived.Test.YtpokpbhcfdaapaazEMissingByM2
import Derived.Test.YtpokpbhcfdaapaazEMissingByM29
import Derived.Test.YtpokpbhcfdaapaazEMissingByM30
namespace Go.Proofs.Ytpokpbhcfdaapaa.Pure
open Go.RowKit Go.Proofs.Ytpokpbhcfdaapaa.M Go.Proofs.YtpokpbhcfdaapaaW.PrintWords Go.Proofs.YtpokpbhcfdaapaaW.PrintLast Go.Proofs.YtpokpbhcfdaapaaW.PrintMore
set_option linter.unusedVariables false
set_option linter.unusedSimpArgs false
def lackOne (a b : Int) : Int := if a - b > 0 then a - b else 0
def missTo (l0 l1 : List Int) : Nat → List Int
  | 0 => []
  | i + 1 => missTo l0 l1 i ++ [lackOne (rd l0 (i : Int)) (rd l1 (i : Int))]
theorem missTo_len (l0 l1 : List Int) : ∀ i, (missTo l0 l1 i).length = i
  | 0 => rfl
  | i + 1 => by rw [missTo, List.length_append, missTo_len l0 l1 i]; rfl
def okAt (l0 l1 : List Int) (i : Nat) : Prop := (0 ≤ rd l0 (i : Int) ∧ rd l0 (i : Int) ≤ 1000) ∧ (0 ≤ rd l1 (i : Int) ∧ rd l1 (i : Int) ≤ 1000)
instance (l0 l1 : List Int) (i : Nat) : Decidable (okAt l0 l1 i) := by unfold okAt; infer_instance
def missed (l0 l1 : List Int) : Nat → Nat → List Int × Int
  | 0, i => (missTo l0 l1 i, 0)
  | d + 1, i => if okAt l0 l1 i then missed l0 l1 d (i + 1) else ([], 2)
theorem missed_all (l0 l1 : List Int) : ∀ d i, (∀ j, i ≤ j → j < i + d → okAt l0 l1 j) → missed l0 l1 d i = (missTo l0 l1 (i + d), 0)
  | 0, i, _ => rfl
  | d + 1, i, h => by
    rw [missed, if_pos (h i (by omega) (by omega)), missed_all l0 l1 d (i + 1) (fun j h1 h2 => h j (by omega) (by omega)), show i + 1 + d = i + (d + 1) by omega]
theorem missed_not (l0 l1 : List Int) : ∀ d i, (∃ j, i ≤ j ∧ j < i + d ∧ ¬ okAt l0 l1 j) → missed l0 l1 d i = ([], 2)
  | 0, i, ⟨j, h1, h2, _⟩ => by omega
  | d + 1, i, ⟨j, h1, h2, h3⟩ => by
    rw [missed]
    by_cases c : okAt l0 l1 i
    · rw [if_pos c]
      refine missed_not l0 l1 d (i + 1) ⟨j, ?_, by omega, h3⟩
      by_cases e : j = i
      · subst e; exact absurd c h3
      · omega
    · rw [if_neg c]
theorem in_f' (a : Int) : spec_l00In.f a 0 1000 = some (decide (0 ≤ a ∧ a ≤ 1000)) := by
  unfold spec_l00In.f
  by_cases h1 : a ≥ 0
  · rw [if_pos h1]
    congr 1
    by_cases h2 : a ≤ 1000
    · rw [decide_eq_true h2, decide_eq_true ⟨h1, h2⟩]
    · rw [decide_eq_false h2, decide_eq_false (fun h => h2 h.2)]
  · rw [if_neg h1, decide_eq_false (fun h => h1 h.1)]
theorem max_f (a b : Int) (ha : 0 ≤ a ∧ a ≤ 1000) (hb : 0 ≤ b ∧ b ≤ 1000) : spec_l00Max.f 0 (wrap64 (a - b)) = some (lackOne a b) := by
  rw [w64 _ (by omega) (by omega)]
  unfold spec_l00Max.f lackOne
  by_cases c : 0 > a - b
  · rw [if_pos c, if_neg (by omega)]
  · rw [if_neg c]
    by_cases d : a - b > 0
    · rw [if_pos d]
    · rw [if_neg d]; congr 1; omega
theorem mx_f (a b : Int) (ha : 0 ≤ a ∧ a ≤ 1000) (hb : 0 ≤ b ∧ b ≤ 1000) : mx (wrap64 (a - b)) 0 = lackOne a b := by
  rw [w64 _ (by omega) (by omega)]
  unfold mx lackOne
  (repeat' split) <;> omega
theorem specLoop_ev (l0 l1 : List Int) (h : l0.length = l1.length) (h40 : l0.length ≤ 40) : ∀ d i : Nat, i + d = l0.length → Ev (fun k => spec_MissingBy.l0 k l0 l1 (missTo l0 l1 i) (i : Int)) (missed l0 l1 d i)
  | 0, i, hi => by
    refine Ev.step (fun k => by rw [spec_MissingBy.l0]) (Ev.ite_f (by omega) ?_)
    exact Ev.const rfl
  | d + 1, i, hi => by
    refine Ev.step (fun k => by rw [spec_MissingBy.l0]) (Ev.ite_t (by omega) (Ev.ite_t (by omega) (Ev.bind (Ev.const (in_f' _)) ?_)))
    rw [missed]
    by_cases c0 : 0 ≤ rd l0 (i : Int) ∧ rd l0 (i : Int) ≤ 1000
    · refine Ev.ite_t (decide_eq_true c0) (Ev.ite_t (by omega) (Ev.bind (Ev.const (in_f' _)) ?_))
      by_cases c1 : 0 ≤ rd l1 (i : Int) ∧ rd l1 (i : Int) ≤ 1000
      · refine Ev.ite_t (decide_eq_true c1) (Ev.bind (Ev.const (max_f _ _ c0 c1)) (Ev.ite_t (by rw [missTo_len]; omega) ?_))
        rw [if_pos (show okAt l0 l1 i from ⟨c0, c1⟩), show wrap64 ((i : Int) + 1) = ((i + 1 : Nat) : Int) by rw [w64 _ (by omega) (by omega)]; rfl]
        exact specLoop_ev l0 l1 h h40 d (i + 1) (by omega)
      · rw [if_neg (fun q : okAt l0 l1 i => c1 q.2)]
        exact Ev.ite_f (by rw [decide_eq_false c1]; decide) (Ev.const rfl)
    · rw [if_neg (fun q : okAt l0 l1 i => c0 q.1)]
      exact Ev.ite_f (by rw [decide_eq_false c0]; decide) (Ev.const rfl)
theorem implLoop_ev (l0 l1 : List Int) (h : l0.length = l1.length) (h40 : l0.length ≤ 40) (hok : ∀ j, j < l0.length → okAt l0 l1 j) : ∀ d i : Nat, i + d = l0.length → Ev (fun k => impl_MissingBy.l0 k l1 (missTo l0 l1 i) l0 (l0.length : Int) (i : Int)) (missTo l0 l1 l0.length, 0)
  | 0, i, hi => by
    obtain rfl : i = l0.length := by omega
    refine Ev.step (fun k => by rw [impl_MissingBy.l0]) (Ev.ite_f (by omega) ?_)
    exact Ev.const rfl
  | d + 1, i, hi => by
    have o := hok i (by omega)
    refine Ev.step (fun k => by rw [impl_MissingBy.l0]) (Ev.ite_t (by omega) (Ev.ite_t (by omega) (Ev.ite_t (by omega) (Ev.ite_t (by omega) (Ev.ite_t (by rw [missTo_len]; omega) ?_)))))
    rw [mx_f _ _ o.1 o.2, show wrap64 ((i : Int) + 1) = ((i + 1 : Nat) : Int) by rw [w64 _ (by omega) (by omega)]; rfl]
    exact implLoop_ev l0 l1 h h40 hok d (i + 1) (by omega)
def missing (l0 l1 : List Int) : List Int × Int := if l0.length = l1.length ∧ l0.length ≤ 40 then missed l0 l1 l0.length 0 else ([], 2)
theorem missing_len (l0 l1 : List Int) : (missing l0 l1).1.length ≤ 40 := by
  have q : ∀ d i, i + d ≤ 40 → (missed l0 l1 d i).1.length ≤ 40 := by
    intro d
    induction d with
    | zero => intro i hi; rw [missed]; dsimp only; rw [missTo_len]; omega
    | succ d ih =>
      intro i hi
      rw [missed]
      split
      · exact ih (i + 1) (by omega)
      · simp
  unfold missing
  split
  next c => exact q _ _ (by omega)
  next => simp
theorem spec_ev (l0 l1 : List Int) : Ev (fun k => spec_MissingBy.f k l0 l1) (missing l0 l1) := by
  unfold missing
  by_cases c : l0.length = l1.length
  · refine Ev.ite_t (by omega) ?_
    by_cases c2 : l0.length ≤ 40
    · rw [if_pos ⟨c, c2⟩, decide_eq_false (by omega)]
      refine Ev.step (fun k => by rw [spec_MissingBy.j0]) (Ev.ite_f (by decide) ?_)
      exact specLoop_ev l0 l1 c c2 l0.length 0 (by omega)
    · rw [if_neg (fun h => c2 h.2), decide_eq_true (by omega)]
      exact Ev.step (fun k => by rw [spec_MissingBy.j0]) (Ev.ite_t rfl (Ev.const rfl))
  · rw [if_neg (fun h => c h.1)]
    refine Ev.ite_f (by omega) ?_
    exact Ev.step (fun k => by rw [spec_MissingBy.j0]) (Ev.ite_t rfl (Ev.const rfl))
theorem okAll (l0 l1 : List Int) (h : l0.length = l1.length) (q : ((l0 ++ l1).any fun n => !inB 0 1000 n) = false) (j : Nat) (hj : j < l0.length) : okAt l0 l1 j := by
  have hq := List.any_eq_false.mp q
  have one : ∀ (l : List Int) (hl : ∀ x ∈ l, x ∈ l0 ++ l1) (hjl : j < l.length), 0 ≤ rd l (j : Int) ∧ rd l (j : Int) ≤ 1000 := by
    intro l hl hjl
    have h1 := hq (rd l (j : Int)) (hl _ (by rw [rd_of_lt l j hjl]; exact List.getElem_mem _))
    unfold inB at h1
    simpa using h1
  exact ⟨one l0 (fun x hx => List.mem_append_left _ hx) hj, one l1 (fun x hx => List.mem_append_right _ hx) (by omega)⟩
theorem okNot (l0 l1 : List Int) (h : l0.length = l1.length) (q : ((l0 ++ l1).any fun n => !inB 0 1000 n) = true) : ∃ j, j < l0.length ∧ ¬ okAt l0 l1 j := by
  obtain ⟨x, hx, hb⟩ := List.any_eq_true.mp q
  have hb' : ¬ (0 ≤ x ∧ x ≤ 1000) := by
    unfold inB at hb
    simp at hb
    omega
  rcases List.mem_append.mp hx with hx | hx
  · obtain ⟨j, hj, rfl⟩ := List.getElem_of_mem hx
    exact ⟨j, hj, fun o => hb' (by have := o.1; rwa [rd_of_lt l0 j hj] at this)⟩
  · obtain ⟨j, hj, rfl⟩ := List.getElem_of_mem hx
    exact ⟨j, by omega, fun o => hb' (by have := o.2; rwa [rd_of_lt l1 j hj] at this)⟩
theorem impl_ev (l0 l1 : List Int) : Ev (fun k => impl_MissingBy.f k l0 l1) (missing l0 l1) := by
  unfold missing
  by_cases c : l0.length = l1.length
  · refine Ev.ite_t (by omega) ?_
    by_cases c2 : l0.length ≤ 40
    · rw [if_pos ⟨c, c2⟩]
      refine Ev.ite_f (by omega) ?_
      have hcc : slices_Concat_int64_int64.f [l0, l1] = some (l0 ++ l1) := by
        unfold slices_Concat_int64_int64.f
        rw [if_pos ⟨by simp, by simp; omega⟩]
        simp
      refine Ev.bind (Ev.const hcc) (Ev.bind (a := !((l0 ++ l1).any fun n => !inB 0 1000 n)) (Ev.const rfl) ?_)
      rw [Bool.not_not]
      cases q : (l0 ++ l1).any fun n => !inB 0 1000 n with
      | false =>
        have hok := okAll l0 l1 c q
        rw [missed_all l0 l1 l0.length 0 (fun j _ hj => hok j (by omega)), Nat.zero_add]
        refine Ev.step (fun k => by rw [impl_MissingBy.j0]) (Ev.ite_f (by decide) ?_)
        exact implLoop_ev l0 l1 c c2 hok l0.length 0 (by omega)
      | true =>
        obtain ⟨j, hj, hn⟩ := okNot l0 l1 c q
        rw [missed_not l0 l1 l0.length 0 ⟨j, Nat.zero_le _, by omega, hn⟩]
        exact Ev.step (fun k => by rw [impl_MissingBy.j0]) (Ev.ite_t rfl (Ev.const rfl))
    · rw [if_neg (fun h => c2 h.2)]
      refine Ev.ite_t (by omega) ?_
      exact Ev.step (fun k => by rw [impl_MissingBy.j0]) (Ev.ite_t rfl (Ev.const rfl))
  · rw [if_neg (fun h => c h.1)]
    refine Ev.ite_f (by omega) ?_
    exact Ev.step (fun k => by rw [impl_MissingBy.j0]) (Ev.ite_t rfl (Ev.const rfl))
theorem FnExactMissingBy : laws_FnExactMissingBy.Pure := by
  intro l0 l1 hm0 hs0 _ hm1 hs1 _
  refine Ev.get ?_
  by_cases b0 : (l0.length : Int) > 1048576
  · exact Ev.ite_t b0 (Ev.const rfl)
  refine Ev.ite_f b0 ?_
  by_cases b1 : (l1.length : Int) > 1048576
  · exact Ev.ite_t b1 (Ev.const rfl)
  refine Ev.ite_f b1 ?_
  have h1 := spec_ev l0 l1
  have h2 := impl_ev l0 l1
  have hlen := missing_len l0 l1
  generalize missing l0 l1 = R at *
  have t0 := laws_toInt64S.ev l0 (by omega)
  have t1 := laws_toInt64S.ev l1 (by omega)
  have eq := laws_eqInt64S.same R.1 (by omega)
  have e : (R.2 != R.2) = false := by simp
  refine Ev.bind t0 (Ev.bind t1 (Ev.bind h1 (Ev.bind t0 (Ev.bind t1 (Ev.bind h2 (Ev.bind eq (Ev.ite_t rfl ?_)))))))
  rw [e]
  refine Ev.step (fun k => by rw [laws_FnExactMissingBy.j0]) (Ev.ite_f (by decide) ?_)
  refine Ev.bind t0 (Ev.bind (laws_eqInt64S.same l0 (by omega)) (Ev.ite_t rfl (Ev.bind t1 (Ev.bind (laws_eqInt64S.same l1 (by omega)) (Ev.ite_t rfl ?_)))))
  refine Ev.bind (laws_markInt64S.ev l0 1 (by omega) (by omega) (by omega)) (Ev.bind (laws_markInt64S.ev l1 (1 + (l0.length : Int)) (by omega) (by omega) (by omega)) (Ev.ite_f (by dsimp only; omega) (Ev.bind eq (Ev.ite_t rfl ?_))))
  rw [e]
  refine Ev.step (fun k => by rw [laws_FnExactMissingBy.j1]) (Ev.ite_f (by decide) ?_)
  refine Ev.bind (laws_markInt64S.ev R.1 1 (by omega) (by omega) (by omega)) (Ev.bind (laws_heldInt64S.ev 1 R.1.length (by omega) (by omega) (by omega)) (Ev.ite_f (by omega) (Ev.ite_t rfl (Ev.bind t0 (Ev.bind t1 (Ev.bind h2 (Ev.bind eq (Ev.ite_t rfl ?_))))))))
  rw [e]
  refine Ev.step (fun k => by rw [laws_FnExactMissingBy.j2]) (Ev.ite_f (by decide) ?_)
  exact Ev.bind (laws_heldInt64S.ev 1 R.1.length (by omega) (by omega) (by omega)) (Ev.ite_f (by omega) (Ev.ite_t rfl (Ev.const rfl)))
end Go.Proofs.Ytpokpbhcfdaapaa.Pure
