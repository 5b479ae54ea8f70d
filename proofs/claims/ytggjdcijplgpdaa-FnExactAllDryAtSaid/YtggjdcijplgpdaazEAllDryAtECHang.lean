import Derived.Test.YtggjdcijplgpdaazEAllDryAtD0
import Derived.Test.YtggjdcijplgpdaazEAllDryAtD1
import Derived.Test.YtggjdcijplgpdaazEAllDryAtD13
import Derived.Test.YtggjdcijplgpdaazEAllDryAtEAreWithin
import Derived.Test.YtggjdcijplgpdaazEAllDryAtECLem
import Derived.Test.YtggjdcijplgpdaazEAllDryAtECWet
import Derived.Test.YtggjdcijplgpdaazEAllDryAtEDay1
import Derived.Test.YtggjdcijplgpdaazEAllDryAtEDayBase
import Derived.Test.YtggjdcijplgpdaazEAllDryAtEDay5
import Derived.Test.YtggjdcijplgpdaazEAllDryAtD3
import Derived.Test.YtggjdcijplgpdaazEAllDryAtEDayCode
import Derived.Test.YtggjdcijplgpdaazEAllDryAtEIsOrder
import Derived.Test.YtggjdcijplgpdaazEAllDryAtEEvLoop
import Derived.Test.YtggjdcijplgpdaazEAllDryAtEIota
import Derived.Test.YtggjdcijplgpdaazEAllDryAtEListsWash
import Derived.Shelf.Abstract
namespace Go.Proofs.Ytggjdcijplgpdaa.D
open Go.RowKit Go.Proofs.YtggjdcijplgpdaaW.PrintWords Go.Proofs.YtggjdcijplgpdaaW.PrintLast Go.Proofs.YtggjdcijplgpdaaW.PrintMore
attribute [local go_sem] max2_int min2_int max_two min_two max_three min_three max_four min_four
set_option linter.unusedVariables false
set_option linter.unusedSimpArgs false
theorem rd74_lt (l : List S74) (i : Nat) (h : i < l.length) : rd_T74 l (i : Int) = l[i] := by
  show l.getD (i : Int).toNat z74 = _
  rw [Int.toNat_natCast, List.getD_eq_getElem?_getD, List.getElem?_eq_getElem h]
  rfl
theorem specWeather_f (x : S74) : spec_l03Weather.f x.f0 x.f1 x.f2 = some (okHour x) := by
  unfold spec_l03Weather.f okHour inB
  rw [same_in, same_in, same_in]
  generalize (decide (0 ≤ wrap64 x.f0) && decide (wrap64 x.f0 ≤ 9)) = a
  generalize (decide (0 ≤ wrap64 x.f1) && decide (wrap64 x.f1 ≤ 9)) = b
  generalize (decide (0 ≤ wrap64 x.f2) && decide (wrap64 x.f2 ≤ 9)) = c
  cases a <;> cases b <;> cases c <;> rfl
theorem specWash_f (x : S128) : spec_l03Wash.f x.f0 x.f1 = some (okWash x) := by
  unfold spec_l03Wash.f okWash inB
  rw [same_in, same_in]
  generalize (decide (0 ≤ wrap64 x.f0) && decide (wrap64 x.f0 ≤ 1000)) = a
  generalize (decide (1 ≤ wrap64 x.f1) && decide (wrap64 x.f1 ≤ 9)) = b
  cases a <;> cases b <;> rfl
theorem specOk_ev (D : List S74) (hl : D.length = 24) : Ev (fun k => spec_l03Ok.f k D) (!(D.any fun x => !okHour x)) := by
  refine Ev.loop (L := fun k s => spec_l03Ok.l0 k D s) (fun s d => ∃ i : Nat, i + d = 24 ∧ s = (i : Int) ∧ (D.drop i).any (fun x => !okHour x) = D.any (fun x => !okHour x)) ?_ 24 0 ⟨0, by omega, rfl, rfl⟩
  rintro s d ⟨i, hd, rfl, hf⟩
  by_cases c : i < 24
  · have e : D.drop i = D[i] :: D.drop (i + 1) := List.drop_eq_getElem_cons (by omega)
    rw [e, List.any_cons] at hf
    have hw : spec_l03Weather.f (rd_T74 D (i : Int)).f0 (rd_T74 D (i : Int)).f1 (rd_T74 D (i : Int)).f2 = some (okHour D[i]) := by rw [rd74_lt D i (by omega)]; exact specWeather_f _
    cases q : okHour D[i] with
    | true =>
      rw [q] at hf hw
      refine .inr ⟨((i + 1 : Nat) : Int), d - 1, by omega, ⟨i + 1, by omega, rfl, by rw [← hf]; rfl⟩, 0, fun k _ => ?_⟩
      rw [spec_l03Ok.l0]
      rw [if_pos (by omega), if_pos (by omega), if_pos (by omega), hw, Option.bind_some, if_pos rfl, w64 _ (by omega) (by omega)]
      rfl
    | false =>
      rw [q] at hf hw
      refine .inl ⟨0, fun k _ => ?_⟩
      rw [spec_l03Ok.l0]
      rw [if_pos (by omega), if_pos (by omega), if_pos (by omega), hw, Option.bind_some, if_neg (by decide), ← hf]
      rfl
  · obtain rfl : i = 24 := by omega
    refine .inl ⟨0, fun k _ => ?_⟩
    rw [spec_l03Ok.l0]
    rw [if_neg (by omega), ← hf, List.drop_of_length_le (by omega)]
    rfl
def codeAsked (D : List S74) (L : List S128) (fine : Bool) : Int := if D.any (fun x => !okHour x) = true then 1 else if L.any (fun x => !okWash x) = true then 1 else if fine = true then 0 else 2
theorem asked_ev (D : List S74) (hl : D.length = 24) (L : List S128) (hm : L.length ≤ 4611686018427387904) (fine : Bool) : Ev (fun k => spec_l03Asked.f k D L fine) (codeAsked D L fine) := by
  have h := specOk_ev D hl
  unfold codeAsked
  cases p : D.any (fun x => !okHour x) with
  | true =>
    rw [p] at h
    exact Ev.bind h (Ev.ite_f (by decide) (Ev.const rfl))
  | false =>
    rw [p] at h
    rw [if_neg (by decide)]
    refine Ev.bind h (Ev.ite_t rfl ?_)
    refine Ev.loop (L := fun k s => spec_l03Asked.l0 k L fine s) (fun s d => ∃ i : Nat, i + d = L.length ∧ s = (i : Int) ∧ (L.drop i).any (fun x => !okWash x) = L.any (fun x => !okWash x)) ?_ L.length 0 ⟨0, by omega, rfl, rfl⟩
    rintro s d ⟨i, hd, rfl, hf⟩
    by_cases c : i < L.length
    · have e : L.drop i = L[i] :: L.drop (i + 1) := List.drop_eq_getElem_cons (by omega)
      rw [e, List.any_cons] at hf
      have hw : spec_l03Wash.f (rd_T128 L (i : Int)).f0 (rd_T128 L (i : Int)).f1 = some (okWash L[i]) := by rw [rd128_lt L i (by omega)]; exact specWash_f _
      cases q : okWash L[i] with
      | true =>
        rw [q] at hf hw
        refine .inr ⟨((i + 1 : Nat) : Int), d - 1, by omega, ⟨i + 1, by omega, rfl, by rw [← hf]; rfl⟩, 0, fun k _ => ?_⟩
        rw [spec_l03Asked.l0]
        rw [if_pos (by omega), if_pos (by omega), hw, Option.bind_some, if_pos rfl, w64 _ (by omega) (by omega)]
        rfl
      | false =>
        rw [q] at hf hw
        refine .inl ⟨0, fun k _ => ?_⟩
        rw [spec_l03Asked.l0]
        rw [if_pos (by omega), if_pos (by omega), hw, Option.bind_some, if_neg (by decide), ← hf, if_pos (by rfl)]
    · obtain rfl : i = L.length := by omega
      refine .inl ⟨0, fun k _ => ?_⟩
      rw [spec_l03Asked.l0]
      rw [if_neg (by omega), ← hf, List.drop_of_length_le (by omega)]
      cases fine <;> rfl
theorem specFrom_f (f : Int) : spec_l03From.f f = some (inB 0 24 f) := by
  unfold spec_l03From.f inB
  rw [same_in]
  rfl
def TypedD (D : List S74) : Prop := ∀ t ∈ D, (-128 ≤ t.f0 ∧ t.f0 ≤ 127) ∧ (-128 ≤ t.f1 ∧ t.f1 ≤ 127) ∧ (-128 ≤ t.f2 ∧ t.f2 ≤ 127)
def TypedW (L : List S128) : Prop := ∀ x ∈ L, (-32768 ≤ x.f0 ∧ x.f0 ≤ 32767) ∧ (-128 ≤ x.f1 ∧ x.f1 ≤ 127)
theorem inB_iff {a b n : Int} : inB a b n = true ↔ a ≤ n ∧ n ≤ b := by
  unfold inB
  rw [Bool.and_eq_true, decide_eq_true_iff, decide_eq_true_iff]
theorem code_zero {D : List S74} {L : List S128} {f u : Int} (hl : D.length = 24) (hD : TypedD D) (hL : TypedW L) (h : codeDay D L f u = 0) : GoodD D ∧ (∀ x ∈ L, GoodW x) ∧ 0 ≤ f ∧ f ≤ u ∧ u ≤ 24 := by
  unfold codeDay at h
  by_cases p : D.any (fun x => !okHour x) = true
  · rw [if_pos p] at h; cases h
  · rw [if_neg p] at h
    by_cases q : L.any (fun x => !okWash x) = true
    · rw [if_pos q] at h; cases h
    · rw [if_neg q] at h
      by_cases r : inB 0 u f = true
      · rw [if_pos r] at h
        by_cases v : u ≤ 24
        · refine ⟨⟨hl, fun t ht => ?_⟩, fun x hx => ?_, (inB_iff.mp r).1, (inB_iff.mp r).2, v⟩
          · have b := hD t ht
            have o : okHour t = true := by
              cases e : okHour t with
              | true => rfl
              | false => exact absurd (List.any_eq_true.mpr ⟨t, ht, by rw [e]; rfl⟩) p
            have e0 : wrap64 t.f0 = t.f0 := w64 _ (by omega) (by omega)
            have e1 : wrap64 t.f1 = t.f1 := w64 _ (by omega) (by omega)
            have e2 : wrap64 t.f2 = t.f2 := w64 _ (by omega) (by omega)
            unfold okHour at o
            rw [e0, e1, e2, Bool.and_eq_true, Bool.and_eq_true] at o
            exact ⟨⟨e0, e1, e2⟩, inB_iff.mp o.1.1, inB_iff.mp o.1.2, inB_iff.mp o.2⟩
          · have b := hL x hx
            have o : okWash x = true := by
              cases e : okWash x with
              | true => rfl
              | false => exact absurd (List.any_eq_true.mpr ⟨x, hx, by rw [e]; rfl⟩) q
            have e0 : wrap64 x.f0 = x.f0 := w64 _ (by omega) (by omega)
            have e1 : wrap64 x.f1 = x.f1 := w64 _ (by omega) (by omega)
            unfold okWash at o
            rw [e0, e1, Bool.and_eq_true] at o
            exact ⟨⟨e0, e1⟩, inB_iff.mp o.1, inB_iff.mp o.2⟩
        · rw [if_neg v] at h; cases h
      · rw [if_neg r] at h; cases h
theorem wash_at {L : List S128} (h : ∀ x ∈ L, GoodW x) (o : Int) (h0 : 0 ≤ o) (h1 : o < L.length) : GoodW (rd_T128 L o) := by
  obtain ⟨i, rfl⟩ : ∃ i : Nat, o = (i : Int) := ⟨o.toNat, by omega⟩
  rw [rd128_lt L i (by omega)]
  exact h _ (List.getElem_mem _)
end Go.Proofs.Ytggjdcijplgpdaa.D
