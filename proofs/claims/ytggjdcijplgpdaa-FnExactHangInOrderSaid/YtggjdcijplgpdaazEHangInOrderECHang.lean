import Derived.Test.YtggjdcijplgpdaazEHangInOrderD0
import Derived.Test.YtggjdcijplgpdaazEHangInOrderD1
import Derived.Test.YtggjdcijplgpdaazEHangInOrderD13
import Derived.Test.YtggjdcijplgpdaazEHangInOrderEAreWithin
import Derived.Test.YtggjdcijplgpdaazEHangInOrderECLem
import Derived.Test.YtggjdcijplgpdaazEHangInOrderECWet
import Derived.Test.YtggjdcijplgpdaazEHangInOrderEDay1
import Derived.Test.YtggjdcijplgpdaazEHangInOrderEDay4
import Derived.Test.YtggjdcijplgpdaazEHangInOrderEDay5
import Derived.Test.YtggjdcijplgpdaazEHangInOrderEDay6
import Derived.Test.YtggjdcijplgpdaazEHangInOrderEDayCode
import Derived.Test.YtggjdcijplgpdaazEHangInOrderEEvLoop
import Derived.Test.YtggjdcijplgpdaazEHangInOrderEIota
import Derived.Test.YtggjdcijplgpdaazEHangInOrderEListsWash
namespace Go.Proofs.Ytggjdcijplgpdaa.D
open Go.RowKit Go.Proofs.YtggjdcijplgpdaaW.PrintWords Go.Proofs.YtggjdcijplgpdaaW.PrintLast Go.Proofs.YtggjdcijplgpdaaW.PrintMore
attribute [local go_sem] max2_int min2_int max_two min_two max_three min_three max_four min_four
set_option linter.unusedVariables false
set_option linter.unusedSimpArgs false
theorem rd74_lt (l : List S74) (i : Nat) (h : i < l.length) : rd_T74 l (i : Int) = l[i] := by
  show l.getD (i : Int).toNat z74 = _
  rw [Int.toNat_natCast, List.getD_eq_getElem?_getD, List.getElem?_eq_getElem h]
  rfl
theorem specWeather_f (x : S74) : spec_l03Weather.f x.f0 x.f1 x.f2 = some (okHour x) := by
  unfold spec_l03Weather.f okHour inB
  rw [same_in, same_in, same_in]
  generalize (decide (0 ≤ wrap64 x.f0) && decide (wrap64 x.f0 ≤ 9)) = a
  generalize (decide (0 ≤ wrap64 x.f1) && decide (wrap64 x.f1 ≤ 9)) = b
  generalize (decide (0 ≤ wrap64 x.f2) && decide (wrap64 x.f2 ≤ 9)) = c
  cases a <;> cases b <;> cases c <;> rfl
theorem specWash_f (x : S128) : spec_l03Wash.f x.f0 x.f1 = some (okWash x) := by
  unfold spec_l03Wash.f okWash inB
  rw [same_in, same_in]
  generalize (decide (0 ≤ wrap64 x.f0) && decide (wrap64 x.f0 ≤ 1000)) = a
  generalize (decide (1 ≤ wrap64 x.f1) && decide (wrap64 x.f1 ≤ 9)) = b
  cases a <;> cases b <;> rfl
theorem specOk_ev (D : List S74) (hl : D.length = 24) : Ev (fun k => spec_l03Ok.f k D) (!(D.any fun x => !okHour x)) := by
  refine Ev.loop (L := fun k s => spec_l03Ok.l0 k D s) (fun s d => ∃ i : Nat, i + d = 24 ∧ s = (i : Int) ∧ (D.drop i).any (fun x => !okHour x) = D.any (fun x => !okHour x)) ?_ 24 0 ⟨0, by omega, rfl, rfl⟩
  rintro s d ⟨i, hd, rfl, hf⟩
  by_cases c : i < 24
  · have e : D.drop i = D[i] :: D.drop (i + 1) := List.drop_eq_getElem_cons (by omega)
    rw [e, List.any_cons] at hf
    have hw : spec_l03Weather.f (rd_T74 D (i : Int)).f0 (rd_T74 D (i : Int)).f1 (rd_T74 D (i : Int)).f2 = some (okHour D[i]) := by rw [rd74_lt D i (by omega)]; exact specWeather_f _
    cases q : okHour D[i] with
    | true =>
      rw [q] at hf hw
      refine .inr ⟨((i + 1 : Nat) : Int), d - 1, by omega, ⟨i + 1, by omega, rfl, by rw [← hf]; rfl⟩, 0, fun k _ => ?_⟩
      rw [spec_l03Ok.l0]
      rw [if_pos (by omega), if_pos (by omega), if_pos (by omega), hw, Option.bind_some, if_pos rfl, w64 _ (by omega) (by omega)]
      rfl
    | false =>
      rw [q] at hf hw
      refine .inl ⟨0, fun k _ => ?_⟩
      rw [spec_l03Ok.l0]
      rw [if_pos (by omega), if_pos (by omega), if_pos (by omega), hw, Option.bind_some, if_neg (by decide), ← hf]
      rfl
  · obtain rfl : i = 24 := by omega
    refine .inl ⟨0, fun k _ => ?_⟩
    rw [spec_l03Ok.l0]
    rw [if_neg (by omega), ← hf, List.drop_of_length_le (by omega)]
    rfl
def codeAsked (D : List S74) (L : List S128) (fine : Bool) : Int := if D.any (fun x => !okHour x) = true then 1 else if L.any (fun x => !okWash x) = true then 1 else if fine = true then 0 else 2
theorem asked_ev (D : List S74) (hl : D.length = 24) (L : List S128) (hm : L.length ≤ 4611686018427387904) (fine : Bool) : Ev (fun k => spec_l03Asked.f k D L fine) (codeAsked D L fine) := by
  have h := specOk_ev D hl
  unfold codeAsked
  cases p : D.any (fun x => !okHour x) with
  | true =>
    rw [p] at h
    exact Ev.bind h (Ev.ite_f (by decide) (Ev.const rfl))
  | false =>
    rw [p] at h
    rw [if_neg (by decide)]
    refine Ev.bind h (Ev.ite_t rfl ?_)
    refine Ev.loop (L := fun k s => spec_l03Asked.l0 k L fine s) (fun s d => ∃ i : Nat, i + d = L.length ∧ s = (i : Int) ∧ (L.drop i).any (fun x => !okWash x) = L.any (fun x => !okWash x)) ?_ L.length 0 ⟨0, by omega, rfl, rfl⟩
    rintro s d ⟨i, hd, rfl, hf⟩
    by_cases c : i < L.length
    · have e : L.drop i = L[i] :: L.drop (i + 1) := List.drop_eq_getElem_cons (by omega)
      rw [e, List.any_cons] at hf
      have hw : spec_l03Wash.f (rd_T128 L (i : Int)).f0 (rd_T128 L (i : Int)).f1 = some (okWash L[i]) := by rw [rd128_lt L i (by omega)]; exact specWash_f _
      cases q : okWash L[i] with
      | true =>
        rw [q] at hf hw
        refine .inr ⟨((i + 1 : Nat) : Int), d - 1, by omega, ⟨i + 1, by omega, rfl, by rw [← hf]; rfl⟩, 0, fun k _ => ?_⟩
        rw [spec_l03Asked.l0]
        rw [if_pos (by omega), if_pos (by omega), hw, Option.bind_some, if_pos rfl, w64 _ (by omega) (by omega)]
        rfl
      | false =>
        rw [q] at hf hw
        refine .inl ⟨0, fun k _ => ?_⟩
        rw [spec_l03Asked.l0]
        rw [if_pos (by omega), if_pos (by omega), hw, Option.bind_some, if_neg (by decide), ← hf, if_pos (by rfl)]
    · obtain rfl : i = L.length := by omega
      refine .inl ⟨0, fun k _ => ?_⟩
      rw [spec_l03Asked.l0]
      rw [if_neg (by omega), ← hf, List.drop_of_length_le (by omega)]
      cases fine <;> rfl
theorem asked_day (D : List S74) (L : List S128) (f : Int) : codeAsked D L (inB 0 24 f) = codeDay D L f 24 := by
  unfold codeAsked codeDay
  rw [if_pos (show (24 : Int) ≤ 24 by decide)]
theorem specFrom_f (f : Int) : spec_l03From.f f = some (inB 0 24 f) := by
  unfold spec_l03From.f inB
  rw [same_in]
  rfl
def TypedD (D : List S74) : Prop := ∀ t ∈ D, (-128 ≤ t.f0 ∧ t.f0 ≤ 127) ∧ (-128 ≤ t.f1 ∧ t.f1 ≤ 127) ∧ (-128 ≤ t.f2 ∧ t.f2 ≤ 127)
def TypedW (L : List S128) : Prop := ∀ x ∈ L, (-32768 ≤ x.f0 ∧ x.f0 ≤ 32767) ∧ (-128 ≤ x.f1 ∧ x.f1 ≤ 127)
theorem inB_iff {a b n : Int} : inB a b n = true ↔ a ≤ n ∧ n ≤ b := by
  unfold inB
  rw [Bool.and_eq_true, decide_eq_true_iff, decide_eq_true_iff]
theorem code_zero {D : List S74} {L : List S128} {f u : Int} (hl : D.length = 24) (hD : TypedD D) (hL : TypedW L) (h : codeDay D L f u = 0) : GoodD D ∧ (∀ x ∈ L, GoodW x) ∧ 0 ≤ f ∧ f ≤ u ∧ u ≤ 24 := by
  unfold codeDay at h
  by_cases p : D.any (fun x => !okHour x) = true
  · rw [if_pos p] at h; cases h
  · rw [if_neg p] at h
    by_cases q : L.any (fun x => !okWash x) = true
    · rw [if_pos q] at h; cases h
    · rw [if_neg q] at h
      by_cases r : inB 0 u f = true
      · rw [if_pos r] at h
        by_cases v : u ≤ 24
        · refine ⟨⟨hl, fun t ht => ?_⟩, fun x hx => ?_, (inB_iff.mp r).1, (inB_iff.mp r).2, v⟩
          · have b := hD t ht
            have o : okHour t = true := by
              cases e : okHour t with
              | true => rfl
              | false => exact absurd (List.any_eq_true.mpr ⟨t, ht, by rw [e]; rfl⟩) p
            have e0 : wrap64 t.f0 = t.f0 := w64 _ (by omega) (by omega)
            have e1 : wrap64 t.f1 = t.f1 := w64 _ (by omega) (by omega)
            have e2 : wrap64 t.f2 = t.f2 := w64 _ (by omega) (by omega)
            unfold okHour at o
            rw [e0, e1, e2, Bool.and_eq_true, Bool.and_eq_true] at o
            exact ⟨⟨e0, e1, e2⟩, inB_iff.mp o.1.1, inB_iff.mp o.1.2, inB_iff.mp o.2⟩
          · have b := hL x hx
            have o : okWash x = true := by
              cases e : okWash x with
              | true => rfl
              | false => exact absurd (List.any_eq_true.mpr ⟨x, hx, by rw [e]; rfl⟩) q
            have e0 : wrap64 x.f0 = x.f0 := w64 _ (by omega) (by omega)
            have e1 : wrap64 x.f1 = x.f1 := w64 _ (by omega) (by omega)
            unfold okWash at o
            rw [e0, e1, Bool.and_eq_true] at o
            exact ⟨⟨e0, e1⟩, inB_iff.mp o.1, inB_iff.mp o.2⟩
        · rw [if_neg v] at h; cases h
      · rw [if_neg r] at h; cases h
theorem wash_at {L : List S128} (h : ∀ x ∈ L, GoodW x) (o : Int) (h0 : 0 ≤ o) (h1 : o < L.length) : GoodW (rd_T128 L o) := by
  obtain ⟨i, rfl⟩ : ∃ i : Nat, o = (i : Int) := ⟨o.toNat, by omega⟩
  rw [rd128_lt L i (by omega)]
  exact h _ (List.getElem_mem _)
theorem left_ev {D : List S74} (h : GoodD D) {x : S128} (hx : GoodW x) (s : Nat) (hs : s ≤ 1000) : Ev (fun k => spec_l03Left.f k D x.f0 x.f1 (s : Int)) (wetN D x.f1 false s x.f0 (24 - s)) := by
  by_cases c : s ≤ 24
  · exact Ev.bind (behind_ev h hx false s 24 c (by omega)) (Ev.const rfl)
  · have e : 24 - s = 0 := by omega
    rw [e]
    have w := hx.1.1
    refine Ev.bind (r := x.f0) ?_ (Ev.const rfl)
    unfold spec_l03Behind.f
    rw [w]
    exact Ev.step (fun k => by rw [spec_l03Behind.l0]) (Ev.ite_f (by omega) (Ev.const rfl))
def hangL (D : List S74) (L : List S128) (o : List Int) (f : Nat) : Nat → List Int
  | 0 => []
  | i + 1 => hangL D L o f i ++ [wetN D (rd_T128 L (rd o (i : Int))).f1 false (f + i) (rd_T128 L (rd o (i : Int))).f0 (24 - (f + i))]
theorem hangL_len (D : List S74) (L : List S128) (o : List Int) (f : Nat) : ∀ i, (hangL D L o f i).length = i
  | 0 => rfl
  | i + 1 => by rw [hangL, List.length_append, hangL_len D L o f i]; rfl
def codeHang (D : List S74) (L : List S128) (o : List Int) (f : Int) : Int := if codeDay D L f 24 = 0 then (if L.length ≤ 6 then (if isOrd o L.length = true then 0 else 4) else 3) else codeDay D L f 24
def hangRes (D : List S74) (L : List S128) (o : List Int) (f : Int) : List Int × Int := if codeHang D L o f = 0 then (hangL D L o f.toNat o.length, 0) else ([], codeHang D L o f)
theorem hang_zero {D : List S74} {L : List S128} {o : List Int} {f : Int} (h : codeHang D L o f = 0) : codeDay D L f 24 = 0 ∧ L.length ≤ 6 ∧ isOrd o L.length = true := by
  unfold codeHang at h
  by_cases c : codeDay D L f 24 = 0
  · rw [if_pos c] at h
    by_cases b : L.length ≤ 6
    · rw [if_pos b] at h
      by_cases q : isOrd o L.length = true
      · exact ⟨c, b, q⟩
      · rw [if_neg q] at h; cases h
    · rw [if_neg b] at h; cases h
  · rw [if_neg c] at h
    exact absurd h c
theorem hangRes_len (D : List S74) (L : List S128) (o : List Int) (f : Int) (ho : o.length ≤ 1048576) : (hangRes D L o f).1.length ≤ 1048576 := by
  unfold hangRes
  by_cases c : codeHang D L o f = 0
  · rw [if_pos c]
    show (hangL D L o f.toNat o.length).length ≤ _
    rw [hangL_len]
    exact ho
  · rw [if_neg c]
    show 0 ≤ _
    omega
theorem hang_loops {D : List S74} {L : List S128} {o : List Int} {f : Nat} (hD : GoodD D) (hL : ∀ x ∈ L, GoodW x) (h6 : L.length ≤ 6) (ho : isOrd o L.length = true) (hf : f ≤ 24) :
    Ev (fun k => spec_HangInOrder.l0 k L o (f : Int) D [] 0) (hangL D L o f o.length, 0) ∧ Ev (fun k => impl_Day_hang.f k D L o (f : Int)) (hangL D L o f o.length) := by
  obtain ⟨ol, _, orr⟩ := (isOrd_iff o L.length).mp ho
  have key : ∀ d i : Nat, i + d = o.length → Ev (fun k => spec_HangInOrder.l0 k L o (f : Int) D (hangL D L o f i) (i : Int)) (hangL D L o f o.length, 0) ∧ Ev (fun k => impl_Day_hang.l0 k L (f : Int) D (hangL D L o f i) o (o.length : Int) (i : Int)) (hangL D L o f o.length) := by
    intro d
    induction d with
    | zero =>
      intro i hi
      obtain rfl : i = o.length := by omega
      exact ⟨Ev.step (fun k => by rw [spec_HangInOrder.l0]) (Ev.ite_f (by omega) (Ev.const rfl)), Ev.step (fun k => by rw [impl_Day_hang.l0]) (Ev.ite_f (by omega) (Ev.const rfl))⟩
    | succ d ih =>
      intro i hi
      obtain ⟨n1, n2⟩ := ih (i + 1) (by omega)
      have r : 0 ≤ rd o (i : Int) ∧ rd o (i : Int) < (L.length : Int) := by
        rw [rd_of_lt o i (by omega)]
        exact orr _ (List.getElem_mem _)
      have gx := wash_at hL _ r.1 r.2
      have hl := hangL_len D L o f i
      have lv := left_ev hD gx (f + i) (by omega)
      have ws : wrap64 ((f : Int) + (i : Int)) = ((f + i : Nat) : Int) := by rw [w64 _ (by omega) (by omega)]; omega
      have wi : wrap64 ((i : Int) + 1) = ((i + 1 : Nat) : Int) := by rw [w64 _ (by omega) (by omega)]; rfl
      rw [hangL] at n1 n2
      constructor
      · refine Ev.step (fun k => by rw [spec_HangInOrder.l0]) ?_
        rw [ws, wi]
        exact Ev.ite_t (by omega) (Ev.ite_t (by omega) (Ev.ite_t r.1 (Ev.ite_t r.2 (Ev.bind lv (Ev.ite_t (by omega) n1)))))
      · refine Ev.step (fun k => by rw [impl_Day_hang.l0]) ?_
        obtain ⟨g, hg, hg24, hgw⟩ : ∃ g : Nat, mn ((f + i : Nat) : Int) 24 = (g : Int) ∧ g ≤ 24 ∧ wetN D (rd_T128 L (rd o (i : Int))).f1 false g (rd_T128 L (rd o (i : Int))).f0 (24 - g) = wetN D (rd_T128 L (rd o (i : Int))).f1 false (f + i) (rd_T128 L (rd o (i : Int))).f0 (24 - (f + i)) := by
          by_cases q : f + i ≤ 24
          · exact ⟨f + i, by unfold mn; (repeat' split) <;> omega, q, rfl⟩
          · refine ⟨24, by unfold mn; (repeat' split) <;> omega, Nat.le_refl _, ?_⟩
            rw [show 24 - (f + i) = 0 by omega, Nat.sub_self]
            rfl
        have cv := course_ev hD gx false g hg24
        have cl := courseL_len D (rd_T128 L (rd o (i : Int))).f1 false g (rd_T128 L (rd o (i : Int))).f0 (24 - g)
        have ca := courseL_at D (rd_T128 L (rd o (i : Int))).f1 false g (rd_T128 L (rd o (i : Int))).f0 (24 - g) (24 - g) (Nat.le_refl _)
        generalize courseL D (rd_T128 L (rd o (i : Int))).f1 false g (rd_T128 L (rd o (i : Int))).f0 (24 - g) = C at cv cl ca
        have wl : wrap64 ((C.length : Int) - 1) = ((24 - g : Nat) : Int) := by rw [cl, w64 _ (by omega) (by omega)]; omega
        rw [ws, wi, hg]
        refine Ev.ite_t (by omega) (Ev.ite_t (by omega) (Ev.ite_t (by omega) (Ev.ite_t r.1 (Ev.ite_t r.2 (Ev.bind cv ?_)))))
        rw [wl, ca, hgw]
        exact Ev.ite_t (by omega) (Ev.ite_t (by omega) (Ev.ite_t (by omega) n2))
  exact key o.length 0 (by omega)
theorem HangInOrder_both (D : List S74) (hl : D.length = 24) (hD : TypedD D) (L : List S128) (hm : L.length ≤ 4611686018427387904) (hL : TypedW L) (o : List Int) (ho : o.length ≤ 1048576) (f : Int) :
    Ev (fun k => spec_HangInOrder.f k D L o f) (hangRes D L o f) ∧ Ev (fun k => impl_HangInOrder.f k D L o f) (hangRes D L o f) := by
  have ha := asked_ev D hl L hm (inB 0 24 f)
  rw [asked_day] at ha
  have hs := order_ev o L.length ho
  have hi := isOrder_ev o L.length ho
  have loops : codeHang D L o f = 0 → Ev (fun k => spec_HangInOrder.l0 k L o f D [] 0) (hangL D L o f.toNat o.length, 0) ∧ Ev (fun k => impl_Day_hang.f k D L o f) (hangL D L o f.toNat o.length) := by
    intro h
    obtain ⟨h1, h2, h3⟩ := hang_zero h
    obtain ⟨gD, gL, f0, f1, _⟩ := code_zero hl hD hL h1
    have := hang_loops gD gL h2 h3 (f := f.toNat) (by omega)
    rw [show ((f.toNat : Nat) : Int) = f by omega] at this
    exact this
  constructor
  · -- the reference
    have j3 : ∀ c, c ≠ 0 → Ev (fun k => spec_HangInOrder.j3 k L o f D [] c) ([], c) := fun c hc => Ev.step (fun k => by rw [spec_HangInOrder.j3]) (Ev.ite_f hc (Ev.const rfl))
    have j2 : ∀ c, c ≠ 0 → Ev (fun k => spec_HangInOrder.j2 k L o f D [] c false) ([], c) := fun c hc => Ev.step (fun k => by rw [spec_HangInOrder.j2]) (Ev.ite_f (by decide) (j3 c hc))
    have j1 : ∀ c, c ≠ 0 → Ev (fun k => spec_HangInOrder.j1 k L o f D [] c) ([], c) := fun c hc => Ev.step (fun k => by rw [spec_HangInOrder.j1]) (Ev.ite_f hc (j2 c hc))
    refine Ev.bind (Ev.const rfl) (Ev.bind (Ev.const (specFrom_f f)) (Ev.bind ha ?_))
    unfold hangRes
    unfold hangRes codeHang at *
    by_cases c : codeDay D L f 24 = 0
    · rw [if_pos c] at loops ⊢
      refine Ev.ite_t c ?_
      by_cases b : L.length ≤ 6
      · rw [if_pos b] at loops ⊢
        rw [decide_eq_false (by omega), c]
        refine Ev.step (fun k => by rw [spec_HangInOrder.j0]) (Ev.ite_f (by decide) (Ev.step (fun k => by rw [spec_HangInOrder.j1]) (Ev.ite_t rfl (Ev.bind hs ?_))))
        cases q : isOrd o L.length with
        | true =>
          rw [q, if_pos rfl] at loops
          rw [if_pos rfl, if_pos rfl]
          exact Ev.step (fun k => by rw [spec_HangInOrder.j2]) (Ev.ite_f (by decide) (Ev.step (fun k => by rw [spec_HangInOrder.j3]) (Ev.ite_t rfl (loops rfl).1)))
        | false =>
          rw [if_neg (show ¬ (false = true) by decide), if_neg (show ¬ ((4 : Int) = 0) by decide)]
          show Ev (fun k => spec_HangInOrder.j2 k L o f D [] 0 true) _
          exact Ev.step (fun k => by rw [spec_HangInOrder.j2]) (Ev.ite_t rfl (j3 4 (by decide)))
      · rw [if_neg b, if_neg (show ¬ ((3 : Int) = 0) by decide), decide_eq_true (by omega)]
        exact Ev.step (fun k => by rw [spec_HangInOrder.j0]) (Ev.ite_t rfl (j1 3 (by decide)))
    · rw [if_neg c, if_neg c]
      exact Ev.ite_f c (Ev.step (fun k => by rw [spec_HangInOrder.j0]) (Ev.ite_f (by decide) (j1 _ c)))
  · -- the program
    have hc : Ev (fun k => impl_dayCode.f k D L f 24) (codeDay D L f 24) := Ev.const rfl
    have hw : impl_fewHung.f L = some (if decide ((L.length : Int) ≤ 6) = true then 0 else 3) := by
      unfold impl_fewHung.f
      rw [unless_b]
      rfl
    have hfirst : firstNZ [codeDay D L f 24, if decide ((L.length : Int) ≤ 6) = true then 0 else 3, if isOrd o L.length = true then 0 else 4] = codeHang D L o f := by
      unfold codeHang
      by_cases c : codeDay D L f 24 = 0
      · rw [if_pos c, firstNZ, if_pos c]
        by_cases b : L.length ≤ 6
        · rw [if_pos b, decide_eq_true (by omega), if_pos rfl, firstNZ, if_pos rfl]
          cases isOrd o L.length <;> rfl
        · rw [if_neg b, decide_eq_false (by omega)]
          rfl
      · rw [if_neg c, firstNZ, if_neg c]
    refine Ev.bind hc (Ev.bind (Ev.const hw) (Ev.bind hi (Ev.bind (Ev.const (unless_b _ _)) (Ev.bind (firstOf_ev _ (by simp)) ?_))))
    rw [hfirst]
    unfold hangRes
    by_cases c : codeHang D L o f = 0
    · rw [if_pos c]
      exact Ev.ite_t c (Ev.bind (loops c).2 (Ev.const rfl))
    · rw [if_neg c]
      exact Ev.ite_f c (Ev.const rfl)
end Go.Proofs.Ytggjdcijplgpdaa.D
