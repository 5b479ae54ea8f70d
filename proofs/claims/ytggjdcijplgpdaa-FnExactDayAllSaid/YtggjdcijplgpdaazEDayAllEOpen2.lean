import Derived.Test.YtggjdcijplgpdaazEDayAllEDayC
import Derived.Test.YtggjdcijplgpdaazEDayAllEEvLoop
import Derived.Test.YtggjdcijplgpdaazEDayAllEIdx8
import Derived.Test.YtggjdcijplgpdaazEDayAllELawD
import Derived.Test.YtggjdcijplgpdaazEDayAllEMarkSS
import Derived.Test.YtggjdcijplgpdaazEDayAllH12
import Derived.Test.YtggjdcijplgpdaazEDayAllEToStS
import Derived.Test.YtggjdcijplgpdaazEDayAllEVHouse
import Derived.Test.YtggjdcijplgpdaazEDayAllH1
import Derived.Test.YtggjdcijplgpdaazEDayAllH2
import Derived.Shelf.Abstract
import Derived.Test.YtggjdcijplgpdaazEDayAllWords1
import Derived.Test.YtggjdcijplgpdaazEDayAllWords2
section
namespace Go.Proofs.Ytggjdcijplgpdaa.H
open Go.RowKit Go.Proofs.YtggjdcijplgpdaaW.PrintWords Go.Proofs.YtggjdcijplgpdaaW.PrintLast Go.Proofs.YtggjdcijplgpdaaW.PrintMore
attribute [local go_sem] max2_int min2_int max_two min_two max_three min_three max_four min_four
set_option linter.unusedVariables false
set_option linter.unusedSimpArgs false
theorem set_next (ls : List (List Int)) (i d : Nat) (h : i + (d + 1) = ls.length) : (ls.take i ++ List.replicate (d + 1) ([] : List Int)).set i (ls.getD i []) = ls.take (i + 1) ++ List.replicate d [] := by
  have hi : i < ls.length := by omega
  have hl : (ls.take i).length = i := by rw [List.length_take]; omega
  rw [List.set_append_right _ _ (by omega), hl, Nat.sub_self, List.replicate_succ, List.set_cons_zero, List.take_succ_eq_append_getElem hi, List.getD_eq_getElem?_getD, List.getElem?_eq_getElem hi, List.append_assoc]
  rfl
theorem toSS_ev (ls : List (List Int)) (hb : ls.length ≤ 10000000) (hf : ls.flatten.length ≤ 10000000) : Ev (fun k => laws_toInt64SS.f k ls) ls := by
  have L : ∀ d i : Nat, i + d = ls.length → Ev (fun k => laws_toInt64SS.l0 k ls (ls.take i ++ List.replicate d []) (i : Int)) ls := by
    intro d
    induction d with
    | zero =>
      intro i hi
      obtain rfl : i = ls.length := by omega
      refine Ev.step (fun k => by rw [laws_toInt64SS.l0]) (Ev.ite_f (by omega) ?_)
      rw [List.take_length, List.replicate_zero, List.append_nil]
      exact Ev.const rfl
    | succ d ih =>
      intro i hi
      have hs := row_short ls i
      have hh := laws_toInt64S.ev (rd_L5 ls (i : Int)) (by show ((ls.getD (i : Int).toNat []).length) ≤ _; rw [Int.toNat_natCast]; omega)
      have hn := ih (i + 1) (by omega)
      rw [← set_next ls i d hi] at hn
      have hlen : (i : Int) < ((ls.take i ++ List.replicate (d + 1) ([] : List Int)).length : Int) := by rw [List.length_append, List.length_take, List.length_replicate]; omega
      refine Ev.step (fun k => by rw [laws_toInt64SS.l0]) (Ev.ite_t (by omega) (Ev.ite_t (by omega) (Ev.bind hh (Ev.ite_t hlen ?_))))
      rw [show wrap64 ((i : Int) + 1) = ((i + 1 : Nat) : Int) from (w64i (by omega) (by omega)).trans (by omega)]
      exact hn
  have h := L ls.length 0 (by omega)
  rw [List.take_zero, List.nil_append] at h
  exact Ev.congr (f := fun k => laws_toInt64SS.l0 k ls (List.replicate ls.length []) ((0 : Nat) : Int)) (fun k => by unfold laws_toInt64SS.f; rw [if_pos (by omega), if_pos (by omega)]; rfl) h
theorem szS_ev (x : List Int) (left : Int) (hx : x.length ≤ 9223372036854775807) (h0 : 0 ≤ left) (h1 : left ≤ 1048576) : laws_szInt64S.f x left = some (if left - (x.length : Int) < 0 then -1 else left - (x.length : Int)) := by
  unfold laws_szInt64S.f
  rw [w64i (by omega) (by omega)]
  by_cases h : left - (x.length : Int) < 0
  · rw [if_pos h, if_pos h]
  · rw [if_neg h, if_neg h]
theorem sz_ev (ls : List (List Int)) (hm : ls.length ≤ 9223372036854775807) (hx : ∀ x ∈ ls, x.length ≤ 9223372036854775807) (left0 : Int) (h0 : 0 ≤ left0) (h1 : left0 ≤ 1048576) : ∃ s : Int, Ev (fun k => laws_szInt64SS.f k ls left0) s ∧ (0 ≤ s → ls.length ≤ 1048576 ∧ ls.flatten.length ≤ 1048576) := by
  have L : ∀ d i : Nat, i + d = ls.length → ∀ left : Int, 0 ≤ left → left ≤ 1048576 → ∃ s : Int, Ev (fun k => laws_szInt64SS.l0 k ls left (i : Int)) s ∧ (0 ≤ s → ((ls.drop i).flatten.length : Int) ≤ left) := by
    intro d
    induction d with
    | zero =>
      intro i hi left hl0 hl1
      refine ⟨left, Ev.step (fun k => by rw [laws_szInt64SS.l0]) (Ev.ite_f (by omega) (Ev.const rfl)), fun _ => ?_⟩
      rw [List.drop_eq_nil_of_le (by omega)]
      exact hl0
    | succ d ih =>
      intro i hi left hl0 hl1
      have hlt : i < ls.length := by omega
      have he : rd_L5 ls (i : Int) = ls[i] := by
        show ls.getD (i : Int).toNat [] = _
        rw [Int.toNat_natCast, List.getD_eq_getElem?_getD, List.getElem?_eq_getElem hlt]
        rfl
      have hz := szS_ev ls[i] left (hx _ (List.getElem_mem hlt)) hl0 hl1
      have hw : wrap64 ((i : Int) + 1) = ((i + 1 : Nat) : Int) := (w64i (by omega) (by omega)).trans (by omega)
      have g1 : (i : Int) < (ls.length : Int) := by omega
      have g2 : 0 ≤ (i : Int) := by omega
      by_cases hc : left - (ls[i].length : Int) < 0
      · rw [if_pos hc] at hz
        exact ⟨-1, Ev.step (f := fun _ => some (-1)) (fun k => by rw [laws_szInt64SS.l0, if_pos g1, if_pos g2, he, hz, Option.bind_some, if_pos (by omega)]) (Ev.const rfl), fun h => absurd h (by omega)⟩
      · rw [if_neg hc] at hz
        obtain ⟨s, hs, hb⟩ := ih (i + 1) (by omega) (left - (ls[i].length : Int)) (by omega) (by omega)
        refine ⟨s, Ev.step (f := fun k => laws_szInt64SS.l0 k ls (left - (ls[i].length : Int)) ((i + 1 : Nat) : Int)) (fun k => by rw [laws_szInt64SS.l0, if_pos g1, if_pos g2, he, hz, Option.bind_some, if_neg hc, hw]) hs, fun h => ?_⟩
        · have := hb h
          rw [List.drop_eq_getElem_cons hlt, List.flatten_cons, List.length_append]
          omega
  by_cases hc : left0 - (ls.length : Int) < 0
  · exact ⟨-1, Ev.fixed (fun k => by unfold laws_szInt64SS.f; rw [w64i (by omega) (by omega), if_pos hc]), fun h => absurd h (by omega)⟩
  · obtain ⟨s, hs, hb⟩ := L ls.length 0 (by omega) (left0 - (ls.length : Int)) (by omega) (by omega)
    refine ⟨s, Ev.congr (f := fun k => laws_szInt64SS.l0 k ls (left0 - (ls.length : Int)) ((0 : Nat) : Int)) (fun k => by unfold laws_szInt64SS.f; rw [w64i (by omega) (by omega), if_neg hc]; rfl) hs, fun h => ?_⟩
    have := hb h
    rw [List.drop_zero] at this
    omega
theorem flat_four : ∀ (L : List (List Int)), (∀ x ∈ L, x.length ≤ 4) → L.flatten.length ≤ 4 * L.length
  | [], _ => by simp
  | x :: L, h => by
    have h1 := h x (by simp)
    have h2 := flat_four L (fun y hy => h y (by simp [hy]))
    rw [List.flatten_cons, List.length_append, List.length_cons]
    omega
theorem runDays_bd {a1 a2 : Int} (ha : 0 ≤ a1 ∧ a1 ≤ 1000) : ∀ (ds : List (List Int)) (l : List S55) (a3 : Int) (out : List (List Int)), FitL l → l.length ≤ 4 → (∀ x ∈ out, x.length ≤ 4) →
    (runDays a1 a2 ds l a3 out).l.length ≤ 4 ∧ (runDays a1 a2 ds l a3 out).out.length ≤ out.length + ds.length ∧ ∀ x ∈ (runDays a1 a2 ds l a3 out).out, x.length ≤ 4
  | [], l, a3, out, _, h4, ho => ⟨h4, by simp [runDays], ho⟩
  | d :: ds, l, a3, out, hf, h4, ho => by
    rw [runDays]
    by_cases h : dayC l a3 d = 0
    · rw [if_pos h]
      have hz := dayC_zero h
      have hk := dayOf_ok (a2 := a2) (a3 := a3) hf ha hz.1.2 hz.1.1
      have hu := useTo_ok hf hz.1.2 hz.1.1 l.length (Nat.le_refl _)
      have ih := runDays_bd (a2 := a2) ha ds (dayOf l a1 a2 a3 d).1 (a3 + 1) (out ++ [(dayOf l a1 a2 a3 d).2]) hk.1 (by rw [hk.2]; exact h4) (fun x hx => by
        rcases List.mem_append.mp hx with hx | hx
        · exact ho x hx
        · rw [List.mem_singleton] at hx
          subst hx
          show (useTo l d l.length).2.length ≤ 4
          omega)
      refine ⟨ih.1, ?_, ih.2.2⟩
      have := ih.2.1
      rw [List.length_append, List.length_singleton] at this
      rw [List.length_cons]
      omega
    · rw [if_neg h]
      exact ⟨by simp [zeroR], by simp [zeroR], fun x hx => by cases hx⟩
theorem dayAllOf_bd (l : List S55) (a1 a2 a3 : Int) (days : List (List Int)) : (dayAllOf l a1 a2 a3 days).l.length ≤ 4 ∧ (dayAllOf l a1 a2 a3 days).out.length ≤ 60 ∧ (dayAllOf l a1 a2 a3 days).out.flatten.length ≤ 240 := by
  unfold dayAllOf
  by_cases h : startC l a1 a2 a3 days.length = 0
  · rw [if_pos h]
    have hs := start_zero h
    have hb := runDays_bd (a2 := a2) hs.1.tub days l a3 [] hs.1.st hs.1.four (fun x hx => by cases hx)
    have h3 := flat_four _ hb.2.2
    have h2 := hb.2.1
    rw [List.length_nil] at h2
    exact ⟨hb.1, by omega, by omega⟩
  · rw [if_neg h]
    exact ⟨by simp [zeroR], by simp [zeroR], by simp [zeroR]⟩
set_option maxHeartbeats 8000000 in
set_option maxRecDepth 100000 in
theorem dayShort1 (A0 A1 : Option Addr) (c0 c1 : Nat) (l : List S145) (a1 a2 a3 : Int) (days : List (List Int)) (W : World) (hr0 : Kd.C k145 W A0 l.length l) (hc0 : l.length ≤ c0) (hl : ¬ l.length ≤ 1048576) :
    Calls Try.prog 3 #[.agg #[.slice A0 l.length c0, .int .i16 a1, .int .i8 a2, .int .i16 a3], .slice A1 days.length c1] W fun e w' => e = .returned (.bool true) ∧ Below W.heap.size W w' := by
  have hu26 := Try.underlying26
  have hmx := Kd.C_max hr0
  have hs : laws_szHouse.f l a1 a2 a3 1048576 = some (-1) := by
    unfold laws_szHouse.f laws_szStockS.f
    rw [w64i (by omega) (by omega), if_pos (by omega), Option.bind_some, if_pos (by omega)]
  have ZH := Aside0.mk (fun (w : World) (hb : Below W.heap.size W w) => laws_szHouse.calls A0 c0 l a1 a2 a3 1048576 _ w (Kd.C_below hr0 hb) hc0 hs)
  clear hr0 hc0 hl hmx hs
  go_enter Try.func3, Try.ntmps3
  go_wp2_with (first | ((with_reducible refine gate_dst (N := 2) rfl ?_); refine box_event ?hg (N := 2) ?hd (cs := #[.slice A0 l.length c0, .int .i16 a1, .int .i8 a2, .int .i16 a3]) (t := 26) ?hr ?_; (case hd => rfl); (case hg => rfl); (case hr => first | (go_simp; done) | (go_simp; rfl)); intro g1 hg_ w1 hbox hb; have HB := Aside0.mk hb; have c0_ : w1.cell? ⟨g1, 0, none⟩ = some (.slice A0 l.length c0) := (blk_cell hbox 0).trans rfl; have c1_ : w1.cell? ⟨g1, 1, none⟩ = some (.int .i16 a1) := (blk_cell hbox 1).trans rfl; have c2_ : w1.cell? ⟨g1, 2, none⟩ = some (.int .i8 a2) := (blk_cell hbox 2).trans rfl; have c3_ : w1.cell? ⟨g1, 3, none⟩ = some (.int .i16 a3) := (blk_cell hbox 3).trans rfl; clear hb hbox hg_) | (go_at_call 7; (with_reducible refine (ZH.out _ ?s1).mono ?_); (case s1 => exact HB.out); rintro e w2 ⟨rfl, hb⟩; have n_ := Aside0.mk (below_step HB.out hb); clear HB hb c0_ c1_ c2_ c3_; have HB := n_; clear n_))
  go_ret
  exact ⟨rfl, HB.out⟩
set_option maxHeartbeats 8000000 in
set_option maxRecDepth 100000 in
theorem dayShort2 (A0 A1 : Option Addr) (c0 c1 : Nat) (l : List S145) (a1 a2 a3 : Int) (days : List (List Int)) (W : World) (hr0 : Kd.C k145 W A0 l.length l) (hc0 : l.length ≤ c0) (hr1 : Kd.C (Kd.slice 2 (Kd.int .i64)) W A1 days.length days) (hc1 : days.length ≤ c1) (hl : l.length ≤ 1048576) (kz : Nat) (s2 : Int) (hz : laws_szInt64SS.f kz days (1048576 - (l.length : Int)) = some s2) (hs2 : ¬ 0 ≤ s2) :
    Calls Try.prog 3 #[.agg #[.slice A0 l.length c0, .int .i16 a1, .int .i8 a2, .int .i16 a3], .slice A1 days.length c1] W fun e w' => e = .returned (.bool true) ∧ Below W.heap.size W w' := by
  have hu26 := Try.underlying26
  have ZH := Aside0.mk (fun (w : World) (hb : Below W.heap.size W w) => laws_szHouse.calls A0 c0 l a1 a2 a3 1048576 _ w (Kd.C_below hr0 hb) hc0 (szHouse_ok l a1 a2 a3 hl))
  have ZS := Aside0.mk (fun (w : World) (hb : Below W.heap.size W w) => laws_szInt64SS.calls kz A1 c1 days (1048576 - (l.length : Int)) s2 w (Kd.C_below hr1 hb) hc1 hz)
  obtain ⟨s1, hs1⟩ : ∃ x, 1048576 - (l.length : Int) = x := ⟨_, rfl⟩
  rw [hs1] at ZH ZS
  have d1 : decide (s1 < 0) = false := decide_eq_false (by omega)
  have d2 : decide (s2 < 0) = true := decide_eq_true (by omega)
  clear hr0 hc0 hr1 hc1 hl hz hs2 hs1
  go_enter Try.func3, Try.ntmps3
  go_wp2_with (first | ((with_reducible refine gate_dst (N := 2) rfl ?_); refine box_event ?hg (N := 2) ?hd (cs := #[.slice A0 l.length c0, .int .i16 a1, .int .i8 a2, .int .i16 a3]) (t := 26) ?hr ?_; (case hd => rfl); (case hg => rfl); (case hr => first | (go_simp; done) | (go_simp; rfl)); intro g1 hg_ w1 hbox hb; have HB := Aside0.mk hb; have c0_ : w1.cell? ⟨g1, 0, none⟩ = some (.slice A0 l.length c0) := (blk_cell hbox 0).trans rfl; have c1_ : w1.cell? ⟨g1, 1, none⟩ = some (.int .i16 a1) := (blk_cell hbox 1).trans rfl; have c2_ : w1.cell? ⟨g1, 2, none⟩ = some (.int .i8 a2) := (blk_cell hbox 2).trans rfl; have c3_ : w1.cell? ⟨g1, 3, none⟩ = some (.int .i16 a3) := (blk_cell hbox 3).trans rfl; clear hb hbox hg_) | (go_at_call 7; (with_reducible refine (ZH.out _ ?s1).mono ?_); (case s1 => exact HB.out); rintro e w2 ⟨rfl, hb⟩; have n_ := Aside0.mk (below_step HB.out hb); clear HB hb c0_ c1_ c2_ c3_; have HB := n_; clear n_) | (go_at_call 8; (with_reducible refine (ZS.out _ ?s1).mono ?_); (case s1 => exact HB.out); rintro e w3 ⟨rfl, hd⟩; have n_ := Aside0.mk (below_step HB.out hd.below); clear HB hd; have HB := n_; clear n_))
  go_ret
  exact ⟨rfl, HB.out⟩
theorem rows_max {W : World} {A : Option Addr} {l : List (List Int)} (hr : Kd.C (Kd.slice 2 (Kd.int .i64)) W A l.length l) : ∀ x ∈ l, x.length ≤ 9223372036854775807 := by
  intro x hx
  obtain ⟨i, hi, rfl⟩ := List.getElem_of_mem hx
  obtain ⟨ad, A0, c0, _, _, _, hc⟩ := at_L5 hr (i : Int) (by omega) (by omega)
  have he : rd_L5 l (i : Int) = l[i] := by
    show l.getD (i : Int).toNat [] = _
    rw [Int.toNat_natCast, List.getD_eq_getElem?_getD, List.getElem?_eq_getElem hi]
    rfl
  rw [he] at hc
  exact Kd.C_max hc
theorem dayAny (A0 A1 : Option Addr) (c0 c1 : Nat) (l : List S145) (a1 a2 a3 : Int) (days : List (List Int)) (W : World) (hr0 : Kd.C k145 W A0 l.length l) (hc0 : l.length ≤ c0) (hr1 : Kd.C (Kd.slice 2 (Kd.int .i64)) W A1 days.length days) (hc1 : days.length ≤ c1) (hty : TypedH (l.map toSt) a1 a2 a3) :
    Calls Try.prog 3 #[.agg #[.slice A0 l.length c0, .int .i16 a1, .int .i8 a2, .int .i16 a3], .slice A1 days.length c1] W fun e w' => e = .returned (.bool true) ∧ Below W.heap.size W w' := by
  by_cases hl : l.length ≤ 1048576
  · obtain ⟨s2, hz0, hs⟩ := sz_ev days (Kd.C_max hr1) (rows_max hr1) (1048576 - (l.length : Int)) (by omega) (by omega)
    obtain ⟨kz, hz⟩ := Ev.get hz0
    by_cases hs2 : 0 ≤ s2
    · obtain ⟨hd, hf⟩ := hs hs2
      obtain ⟨kt, ht⟩ := Ev.get (toSS_ev days (by omega) (by omega))
      have hb := dayAllOf_bd (l.map toSt) a1 a2 a3 days
      obtain ⟨rr, hrr⟩ : ∃ q, dayAllOf (l.map toSt) a1 a2 a3 days = q := ⟨_, rfl⟩
      rw [hrr] at hb
      obtain ⟨lr, p1, p2, p3, LL, cr⟩ := rr
      obtain ⟨b1, b2, b3⟩ : lr.length ≤ 4 ∧ LL.length ≤ 60 ∧ LL.flatten.length ≤ 240 := hb
      obtain ⟨k1, e1⟩ := Ev.get (eqSS_ev LL (by omega) (by omega))
      obtain ⟨k2, e2⟩ := Ev.get (eqSS_ev days (by omega) (by omega))
      obtain ⟨kh, hh⟩ := Ev.get (heldSS_ev LL (1 + 25 * (lr.length : Int)) (by omega) (by omega) (by omega))
      exact dayLaw_calls A0 A1 c0 c1 l a1 a2 a3 days W hr0 hc0 hr1 hc1 (l.map toSt) rfl hty hl hd hf kz kt k1 k2 kh s2 hz hs2 ht lr p1 p2 p3 cr LL hrr (by omega) (by omega) (by omega) e1 e2 hh
    · exact dayShort2 A0 A1 c0 c1 l a1 a2 a3 days W hr0 hc0 hr1 hc1 hl kz s2 hz hs2
  · exact dayShort1 A0 A1 c0 c1 l a1 a2 a3 days W hr0 hc0 hl
end Go.Proofs.Ytggjdcijplgpdaa.H
end
section
namespace Go.Proofs.Ytggjdcijplgpdaa.H
open Go.RowKit Go.Proofs.YtggjdcijplgpdaaW.PrintWords Go.Proofs.YtggjdcijplgpdaaW.PrintLast Go.Proofs.YtggjdcijplgpdaaW.PrintMore
attribute [local go_sem] max2_int min2_int max_two min_two max_three min_three max_four min_four
set_option linter.unusedVariables false
set_option linter.unusedSimpArgs false
theorem row_C {α : Type} (d : Kd α) (m : Nat) (mk : (Nat → Int) → α) (kd : Nat → IntKind) {W : World} {a : Option Addr} {len : Nat} (hK : ∀ g, d.K W (mk g) ((List.range m).map fun j => .int (kd j) (g j))) (hs : d.sz = m) (hm : len ≤ 9223372036854775807)
    (h : (a = none ∧ len = 0) ∨ ∃ ad, a = some ad ∧ ∃ G : Nat → Nat → Int, ∀ q, q < len → ∀ j, j < m → W.cell? (ad.add (q * m + j)) = some (.int (kd j) (G q j)) ∧ (Lit.int (kd j) (G q j)).wf = true) :
    ∃ l : List α, l.length = len ∧ Kd.C d W a len l ∧ ∀ x ∈ l, ∃ g : Nat → Int, x = mk g ∧ ∀ j, j < m → (Lit.int (kd j) (g j)).wf = true := by
  rcases h with ⟨rfl, rfl⟩ | ⟨ad, rfl, G, hG⟩
  · exact ⟨[], rfl, ⟨rfl, by omega, fun h => absurd h (by omega)⟩, fun x hx => by cases hx⟩
  · refine ⟨(List.range len).map fun q => mk (G q), by simp, ⟨by simp, hm, fun _ => ⟨ad, rfl, fun j p hj => ?_⟩⟩, fun x hx => ?_⟩
    · have hjl : j < len := by
        have := (List.getElem?_eq_some_iff.mp hj).1
        simpa using this
      have e : p = mk (G j) := by
        rw [List.getElem?_map, List.getElem?_range hjl] at hj
        exact (Option.some.inj hj).symm
      subst e
      refine ⟨_, by rw [hs]; simp, hK (G j), fun i u hu => ?_⟩
      have hi : i < m := by
        have := (List.getElem?_eq_some_iff.mp hu).1
        simpa using this
      rw [List.getElem?_map, List.getElem?_range hi] at hu
      rw [← Option.some.inj hu, hs]
      exact (hG j hjl i hi).1
    · obtain ⟨q, hq, rfl⟩ := List.mem_map.mp hx
      exact ⟨G q, rfl, fun j hj => (hG q (List.mem_range.mp hq) j hj).2⟩
end Go.Proofs.Ytggjdcijplgpdaa.H
end
