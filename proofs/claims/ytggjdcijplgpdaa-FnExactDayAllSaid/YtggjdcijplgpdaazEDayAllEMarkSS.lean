import Derived.Test.YtggjdcijplgpdaazEDayAllEEvLoop
import Derived.Test.YtggjdcijplgpdaazEDayAllEIdx8
import Derived.Test.YtggjdcijplgpdaazEDayAllH1
import Derived.Test.YtggjdcijplgpdaazEDayAllH2
import Derived.Test.YtggjdcijplgpdaazEDayAllH3
import Derived.Test.YtggjdcijplgpdaazEDayAllEConcat
section
namespace Go.Proofs.Ytggjdcijplgpdaa.H
open Go.RowKit Go.Proofs.YtggjdcijplgpdaaW.PrintWords Go.Proofs.YtggjdcijplgpdaaW.PrintLast Go.Proofs.YtggjdcijplgpdaaW.PrintMore
attribute [local go_sem] max2_int min2_int max_two min_two max_three min_three max_four min_four
set_option linter.unusedVariables false
set_option linter.unusedSimpArgs false
theorem laws_eqInt64S.same (l : List Int) (hm : l.length ≤ 4611686018427387904) : Ev (fun k => laws_eqInt64S.f k l l) true := by
  refine Ev.congr (f := fun k => laws_eqInt64S.l0 k l l 0) (fun k => by unfold laws_eqInt64S.f; rw [if_pos rfl]) ?_
  refine Ev.loop (L := fun k s => laws_eqInt64S.l0 k l l s) (fun s d => ∃ i : Nat, i + d = l.length ∧ s = (i : Int)) ?_ l.length 0 ⟨0, by omega, rfl⟩
  rintro s d ⟨i, hd, rfl⟩
  by_cases c : i < l.length
  · refine .inr ⟨((i + 1 : Nat) : Int), d - 1, by omega, ⟨i + 1, by omega, rfl⟩, 0, fun k _ => ?_⟩
    rw [laws_eqInt64S.l0]
    rw [if_pos (by omega), if_pos (by omega), if_pos (by omega), if_pos rfl, w64 _ (by omega) (by omega)]
    rfl
  · refine .inl ⟨0, fun k _ => ?_⟩
    rw [laws_eqInt64S.l0]
    rw [if_neg (by omega)]
def marksInt64 (a : Int) : Nat → List Int
  | 0 => []
  | n + 1 => marksInt64 a n ++ [a + (n : Int)]
theorem marksInt64_len (a : Int) : ∀ n, (marksInt64 a n).length = n
  | 0 => rfl
  | n + 1 => by simp [marksInt64, marksInt64_len a n]
theorem marksInt64_at (a : Int) : ∀ (n i : Nat), i < n → (marksInt64 a n)[i]? = some (a + (i : Int))
  | 0, i, h => by omega
  | n + 1, i, h => by
    unfold marksInt64
    by_cases c : i < n
    · rw [List.getElem?_append_left (by rw [marksInt64_len]; exact c)]
      exact marksInt64_at a n i c
    · obtain rfl : i = n := by omega
      rw [List.getElem?_append_right (by rw [marksInt64_len]; omega), marksInt64_len]
      simp
theorem laws_markInt64S.ev (l : List Int) (a : Int) (h0 : 0 ≤ a) (h1 : a ≤ 4611686018427387904) (hm : l.length ≤ 2305843009213693952) : Ev (fun k => laws_markInt64S.f k l a) (a + (l.length : Int), marksInt64 a l.length) := by
  refine Ev.loop (L := fun k s => laws_markInt64S.l0 k s.1 s.2.1 s.2.2) (fun s d => ∃ i : Nat, i + d = l.length ∧ s = (marksInt64 a i ++ l.drop i, a + (i : Int), (i : Int))) ?_ l.length (l, a, 0) ⟨0, by omega, by simp [marksInt64]⟩
  rintro ⟨x, y, z⟩ d ⟨i, hd, e⟩
  cases e
  have hl : (marksInt64 a i ++ l.drop i).length = l.length := by rw [List.length_append, marksInt64_len, List.length_drop]; omega
  by_cases c : i < l.length
  · refine .inr ⟨(marksInt64 a (i + 1) ++ l.drop (i + 1), a + ((i + 1 : Nat) : Int), ((i + 1 : Nat) : Int)), d - 1, by omega, ⟨i + 1, by omega, rfl⟩, 0, fun k _ => ?_⟩
    dsimp only
    rw [laws_markInt64S.l0]
    rw [if_pos (by rw [hl]; omega), if_pos (by omega), w64 _ (by omega) (by omega), w64 _ (by omega) (by omega)]
    have hs : (marksInt64 a i ++ l.drop i).set ((i : Int) : Int).toNat (a + (i : Int)) = marksInt64 a (i + 1) ++ l.drop (i + 1) := by
      rw [Int.toNat_natCast, List.set_append_right _ _ (by rw [marksInt64_len]; omega), marksInt64_len, Nat.sub_self, List.drop_eq_getElem_cons c, List.set_cons_zero]
      simp only [marksInt64, List.append_assoc, List.cons_append, List.nil_append]
    rw [hs]
    have e1 : a + (i : Int) + 1 = a + ((i + 1 : Nat) : Int) := by omega
    rw [e1]
    rfl
  · obtain rfl : i = l.length := by omega
    refine .inl ⟨0, fun k _ => ?_⟩
    dsimp only
    rw [laws_markInt64S.l0]
    rw [if_neg (by rw [hl]; omega)]
    simp
theorem laws_heldInt64S.ev (a : Int) (n : Nat) (h0 : 0 ≤ a) (h1 : a ≤ 4611686018427387904) (hm : n ≤ 2305843009213693952) : Ev (fun k => laws_heldInt64S.f k (marksInt64 a n) a) (a + (n : Int)) := by
  refine Ev.loop (L := fun k s => laws_heldInt64S.l0 k (marksInt64 a n) s.1 s.2) (fun s d => ∃ i : Nat, i + d = n ∧ s = (a + (i : Int), (i : Int))) ?_ n (a, 0) ⟨0, by omega, by simp⟩
  rintro ⟨y, z⟩ d ⟨i, hd, e⟩
  cases e
  have hl := marksInt64_len a n
  by_cases c : i < n
  · refine .inr ⟨(a + ((i + 1 : Nat) : Int), ((i + 1 : Nat) : Int)), d - 1, by omega, ⟨i + 1, by omega, rfl⟩, 0, fun k _ => ?_⟩
    dsimp only
    rw [laws_heldInt64S.l0]
    have hr : rd (marksInt64 a n) (i : Int) = a + (i : Int) := by
      show (marksInt64 a n).getD i 0 = _
      rw [List.getD_eq_getElem?_getD, marksInt64_at a n i c]
      rfl
    rw [if_pos (by rw [hl]; omega), if_pos (by omega), if_pos hr, w64 _ (by omega) (by omega), w64 _ (by omega) (by omega)]
    have e1 : a + (i : Int) + 1 = a + ((i + 1 : Nat) : Int) := by omega
    rw [e1]
    rfl
  · obtain rfl : i = n := by omega
    refine .inl ⟨0, fun k _ => ?_⟩
    dsimp only
    rw [laws_heldInt64S.l0]
    rw [if_neg (by rw [hl]; omega)]
theorem laws_toInt64S.ev (l : List Int) (hm : l.length ≤ 35184372088832) : Ev (fun k => laws_toInt64S.f k l) l := by
  refine Ev.congr (f := fun k => laws_toInt64S.l0 k l (List.replicate l.length 0) 0) (fun k => by unfold laws_toInt64S.f; rw [if_pos (by omega), if_pos (by omega)]; rfl) ?_
  refine Ev.loop (L := fun k s => laws_toInt64S.l0 k l s.1 s.2) (fun s d => ∃ i : Nat, i + d = l.length ∧ s = (l.take i ++ List.replicate (l.length - i) 0, (i : Int))) ?_ l.length (List.replicate l.length 0, 0) ⟨0, by omega, by simp⟩
  rintro ⟨x, z⟩ d ⟨i, hd, e⟩
  cases e
  have hl : (l.take i ++ List.replicate (l.length - i) (0 : Int)).length = l.length := by rw [List.length_append, List.length_take, List.length_replicate]; omega
  by_cases c : i < l.length
  · refine .inr ⟨(l.take (i + 1) ++ List.replicate (l.length - (i + 1)) 0, ((i + 1 : Nat) : Int)), d - 1, by omega, ⟨i + 1, by omega, rfl⟩, 0, fun k _ => ?_⟩
    dsimp only
    rw [laws_toInt64S.l0]
    rw [if_pos (by omega), if_pos (by omega), if_pos (by rw [hl]; omega), w64 _ (by omega) (by omega), rd_of_lt l i c]
    have hs : (l.take i ++ List.replicate (l.length - i) (0 : Int)).set ((i : Int) : Int).toNat l[i] = l.take (i + 1) ++ List.replicate (l.length - (i + 1)) 0 := by
      have ht : (l.take i).length = i := by rw [List.length_take]; omega
      rw [Int.toNat_natCast, List.set_append_right _ _ (by omega), ht, Nat.sub_self]
      have hrep : l.length - i = (l.length - (i + 1)) + 1 := by omega
      rw [hrep, List.replicate_succ, List.set_cons_zero, List.take_succ_eq_append_getElem c, List.append_assoc]
      rfl
    rw [hs]
    rfl
  · obtain rfl : i = l.length := by omega
    refine .inl ⟨0, fun k _ => ?_⟩
    dsimp only
    rw [laws_toInt64S.l0]
    rw [if_neg (by omega)]
    simp
end Go.Proofs.Ytggjdcijplgpdaa.H
end
section
namespace Go.Proofs.Ytggjdcijplgpdaa.H
open Go.RowKit Go.Proofs.YtggjdcijplgpdaaW.PrintWords Go.Proofs.YtggjdcijplgpdaaW.PrintLast Go.Proofs.YtggjdcijplgpdaaW.PrintMore
attribute [local go_sem] max2_int min2_int max_two min_two max_three min_three max_four min_four
set_option linter.unusedVariables false
set_option linter.unusedSimpArgs false
def markedTo (ls : List (List Int)) (a : Int) : Nat → List (List Int)
  | 0 => ls
  | i + 1 => (markedTo ls a i).set i (marksInt64 (a + ((upTo ls i).length : Int)) (rowAt ls i).length)
theorem markedTo_len (ls : List (List Int)) (a : Int) : ∀ i, (markedTo ls a i).length = ls.length
  | 0 => rfl
  | i + 1 => by rw [markedTo, List.length_set, markedTo_len ls a i]
theorem markedTo_after (ls : List (List Int)) (a : Int) : ∀ i j, i ≤ j → (markedTo ls a i)[j]? = ls[j]?
  | 0, j, _ => rfl
  | i + 1, j, h => by rw [markedTo, List.getElem?_set_ne (by omega), markedTo_after ls a i j (by omega)]
theorem markedTo_before (ls : List (List Int)) (a : Int) : ∀ i j, j < i → j < ls.length → (markedTo ls a i)[j]? = some (marksInt64 (a + ((upTo ls j).length : Int)) (rowAt ls j).length)
  | 0, j, h, _ => by omega
  | i + 1, j, h, hl => by
    rw [markedTo]
    by_cases e : j = i
    · subst e
      rw [List.getElem?_set_self (by rw [markedTo_len]; exact hl)]
    · rw [List.getElem?_set_ne (by omega), markedTo_before ls a i j (by omega) hl]
theorem S_lift {α : Type} {d : Kd α} {e : Nat} {W : World} {base : Nat} {ok : Nat → Prop} {ad : Addr} {n cap : Nat} {xs : List α} (h : Kd.S d e W base ok (.slice (some ad) n cap) xs) (z : α) (i : Nat) (h1 : i < n) :
    ∃ (oki : Nat → Prop) (c : List Value), d.M W base oki (xs.getD i z) c ∧ (∀ j u, c[j]? = some u → W.cell? (ad.add (i * d.sz + j)) = some u) ∧ (∀ k, oki k → ok k) ∧ Kd.H d e W base ok (.slice (some ad) n cap) xs (i : Int) oki c := by
  obtain ⟨g, rfl⟩ := Kd.R_head (Kd.S_R h)
  obtain ⟨oki, c, _, hM, hc, _, hok, hH⟩ := Kd.S_elem h z (i : Int) (by omega) (by omega)
  rw [Int.toNat_natCast] at hM hc
  refine ⟨oki, c, hM, fun j u hu => ?_, fun k hk => (hok k hk).1, hH⟩
  have := hc j u hu
  simp only [add_plain]
  exact this
set_option maxHeartbeats 8000000 in
set_option maxRecDepth 100000 in
theorem markSS_calls (P0 : Nat → Prop) (v : Value) (ls : List (List Int)) (a : Int) (w0 w : World) (hB : Below w0.heap.size w0 w) (hS : Kd.S (Kd.slice 2 (Kd.int .i64)) 49 w w0.heap.size P0 v ls) (ha : 0 ≤ a ∧ a ≤ 1000000000) (hb : ls.length ≤ 10000000) (hf : ls.flatten.length ≤ 10000000) :
    Calls Try.prog 16 #[v, .int .i64 a] w fun e w' => e = .returned (.int .i64 (a + (ls.flatten.length : Int))) ∧ Kd.S (Kd.slice 2 (Kd.int .i64)) 49 w' w0.heap.size P0 v (markedTo ls a ls.length) ∧ Below w0.heap.size w0 w' ∧ Kept w w' P0 := by
  obtain ⟨A, cap, rfl⟩ := Kd.S_slice hS
  have HS := Aside0.mk hS
  have HB := Aside0.mk hB
  have HK := Aside0.mk (Kept.refl w P0)
  have HF := Aside0.mk hf
  have HL := Aside0.mk hb
  have HA := Aside0.mk ha
  have hut := congrArg List.length (upTo_all ls)
  obtain ⟨tot, htot⟩ : ∃ t : Nat, ls.flatten.length = t := ⟨_, rfl⟩
  rw [htot] at hut ⊢
  have HUT := Aside0.mk hut
  clear hS hB ha hb hf hut htot
  go_enter Try.func16, Try.ntmps16
  go_wp2
  go_loopg [1, 5] ls.length (fun gg v1 v5 w' => ∃ (kk : Nat), kk ≤ ls.length ∧ ls.length - kk ≤ gg ∧ v1 = .int .i64 (a + ((upTo ls kk).length : Int)) ∧ v5 = .int .i64 (kk : Int) ∧ Aside0 (Kd.S (Kd.slice 2 (Kd.int .i64)) 49 w' w0.heap.size P0 (.slice A ls.length cap) (markedTo ls a kk)) ∧ Aside0 (Below w0.heap.size w0 w') ∧ Aside0 (Kept w w' P0))
  case atStart => exact ⟨0, Nat.zero_le _, by omega, by simp [upTo], rfl, HS, HB, HK⟩
  case round =>
    clear HS HB HK
    obtain ⟨kk, hkk, hg, rfl, rfl, HS, HB, HK⟩ := hrel
    by_cases hlt : kk < ls.length
    · have hltz : (kk : Int) < (ls.length : Int) := by omega
      obtain ⟨ad, rfl⟩ : ∃ ad, A = some ad := by
        obtain ⟨g, c, e, _⟩ := Kd.S_form HS.out (by rw [markedTo_len]; omega)
        injection e with e1 e2 e3
        exact ⟨_, e1⟩
      obtain ⟨oki, c, hM, hcell, hoki, hH⟩ := S_lift HS.out ([] : List Int) kk hlt
      obtain ⟨vi, rfl, hRi⟩ := hM
      have hx : wr.cell? (ad.add kk) = some vi := by
        have := hcell 0 vi rfl
        rw [show ((Kd.slice 2 (Kd.int .i64)) : Kd (List Int)).sz = 1 from rfl, Nat.mul_one, Nat.add_zero] at this
        exact this
      have hrow : (markedTo ls a kk).getD kk [] = rowAt ls kk := by
        rw [List.getD_eq_getElem?_getD, markedTo_after ls a kk kk (Nat.le_refl _)]
        unfold rowAt
        rw [List.getD_eq_getElem?_getD]
      rw [hrow] at hRi
      have hle := upTo_le ls (kk + 1)
      have hsc := congrArg List.length (upTo_succ ls kk hlt)
      rw [List.length_append] at hsc
      have hEv := laws_markInt64S.ev (rowAt ls kk) (a + ((upTo ls kk).length : Int)) (by have := HA.out; omega) (by have := HA.out; have := HF.out; omega) (by have := HF.out; omega)
      obtain ⟨km, hkm⟩ := Ev.get hEv
      have HC := Aside0.mk (laws_markInt64S.calls km (fun k_ => some k_ = vi.ownBlock) vi (rowAt ls kk) (a + ((upTo ls kk).length : Int)) _ _ w0 wr HB.out (Kd.R_tight rfl hRi) hkm)
      have HRi := Aside0.mk hRi
      have HH := Aside0.mk hH
      have hnext : a + ((upTo ls kk).length : Int) + ((rowAt ls kk).length : Int) = a + ((upTo ls (kk + 1)).length : Int) := by omega
      have HOK := Aside0.mk hoki
      obtain ⟨T, hT⟩ : ∃ T, a + ((upTo ls kk).length : Int) = T := ⟨_, rfl⟩
      rw [hT] at HC hnext ⊢
      have HN := Aside0.mk hnext
      have HT := Aside0.mk hT
      have hk1 : wrap64 ((kk : Int) + 1) = ((kk + 1 : Nat) : Int) := by have := HL.out; unfold wrap64; omega
      clear hcell hoki hH hRi hkm hEv hle hsc hrow hnext hT
      go_wp2_with (go_at_call 53; refine HC.out.mono ?_; rintro e w2 ⟨rfl, hR2, hB2, hK2⟩; have HR2 := Aside0.mk hR2; have HB2 := Aside0.mk hB2; have HK2 := Aside0.mk hK2; clear hR2 hB2 hK2)
      go_roundg (ls.length - (kk + 1))
      case measure => omega
      case rel =>
        refine ⟨kk + 1, by omega, by omega, by rw [HN.out], by rw [hk1], ⟨?_⟩, HB2, ⟨HK.out.then_ HK2.out (fun k hk => .inl ?_)⟩⟩
        · have h1 := Kd.H_kept HH.out HK2.out (fun k _ hn hs => hn (HRi.out.1 k hs.symm))
          have h2 := Kd.H_back h1 (x' := marksInt64 T (rowAt ls kk).length) (okp := oki) ⟨vi, rfl, Kd.R_reok rfl HR2.out (fun k hk => HRi.out.1 k hk)⟩ (fun k hk => hk)
          rw [Int.toNat_natCast] at h2
          rw [markedTo, HT.out]
          exact h2
        · exact HOK.out k (HRi.out.1 k hk.symm)
    · have hltz : ¬ (kk : Int) < (ls.length : Int) := by omega
      obtain rfl : kk = ls.length := by omega
      go_wp2
      go_ret
      exact ⟨by rw [← HUT.out]; rfl, HS.out, HB.out, HK.out⟩
theorem row_short (ls : List (List Int)) (i : Nat) : (ls.getD i []).length ≤ ls.flatten.length := by
  by_cases h : i < ls.length
  · have h1 := congrArg List.length (upTo_succ ls i h)
    have h2 := upTo_le ls (i + 1)
    rw [List.length_append] at h1
    unfold rowAt at h1
    omega
  · rw [List.getD_eq_getElem?_getD, List.getElem?_eq_none (by omega)]
    simp
theorem heldSS_ev (ls : List (List Int)) (a : Int) (ha : 0 ≤ a ∧ a ≤ 1000000000) (hb : ls.length ≤ 10000000) (hf : ls.flatten.length ≤ 10000000) : Ev (fun k => laws_heldInt64SS.f k (markedTo ls a ls.length) a) (a + (ls.flatten.length : Int)) := by
  have L : ∀ d i : Nat, i + d = ls.length → Ev (fun k => laws_heldInt64SS.l0 k (markedTo ls a ls.length) (a + ((upTo ls i).length : Int)) (i : Int)) (a + (ls.flatten.length : Int)) := by
    intro d
    induction d with
    | zero =>
      intro i hi
      obtain rfl : i = ls.length := by omega
      refine Ev.step (fun k => by rw [laws_heldInt64SS.l0]) (Ev.ite_f (by rw [markedTo_len]; omega) ?_)
      rw [upTo_all]
      exact Ev.const rfl
    | succ d ih =>
      intro i hi
      have hle := upTo_le ls (i + 1)
      have hsc := congrArg List.length (upTo_succ ls i (by omega))
      rw [List.length_append] at hsc
      have hel : rd_L5 (markedTo ls a ls.length) (i : Int) = marksInt64 (a + ((upTo ls i).length : Int)) (rowAt ls i).length := by
        show (markedTo ls a ls.length).getD (i : Int).toNat [] = _
        rw [Int.toNat_natCast, List.getD_eq_getElem?_getD, markedTo_before ls a ls.length i (by omega) (by omega)]
        rfl
      have hh := laws_heldInt64S.ev (a + ((upTo ls i).length : Int)) (rowAt ls i).length (by omega) (by omega) (by omega)
      rw [← hel] at hh
      have hn := ih (i + 1) (by omega)
      refine Ev.step (fun k => by rw [laws_heldInt64SS.l0]) (Ev.ite_t (by rw [markedTo_len]; omega) (Ev.ite_t (by omega) (Ev.bind hh (Ev.ite_f (show ¬ (a + ((upTo ls i).length : Int) + ((rowAt ls i).length : Int) < 0) by omega) ?_))))
      rw [show wrap64 ((i : Int) + 1) = ((i + 1 : Nat) : Int) from (w64i (by omega) (by omega)).trans (by omega), show a + ((upTo ls i).length : Int) + ((rowAt ls i).length : Int) = a + ((upTo ls (i + 1)).length : Int) by omega]
      exact hn
  have h := L ls.length 0 (by omega)
  rw [show a + ((upTo ls 0).length : Int) = a by simp [upTo]] at h
  exact h
theorem eqSS_ev (ls : List (List Int)) (hb : ls.length ≤ 10000000) (hf : ls.flatten.length ≤ 1000000000) : Ev (fun k => laws_eqInt64SS.f k ls ls) true := by
  have L : ∀ d i : Nat, i + d = ls.length → Ev (fun k => laws_eqInt64SS.l0 k ls ls (i : Int)) true := by
    intro d
    induction d with
    | zero =>
      intro i hi
      refine Ev.step (fun k => by rw [laws_eqInt64SS.l0]) (Ev.ite_f (by omega) ?_)
      exact Ev.const rfl
    | succ d ih =>
      intro i hi
      have hs := row_short ls i
      have hh := laws_eqInt64S.same (rd_L5 ls (i : Int)) (by show ((ls.getD (i : Int).toNat []).length) ≤ _; rw [Int.toNat_natCast]; omega)
      refine Ev.step (fun k => by rw [laws_eqInt64SS.l0]) (Ev.ite_t (by omega) (Ev.ite_t (by omega) (Ev.ite_t (by omega) (Ev.bind hh (Ev.ite_t rfl ?_)))))
      rw [show wrap64 ((i : Int) + 1) = ((i + 1 : Nat) : Int) from (w64i (by omega) (by omega)).trans (by omega)]
      exact ih (i + 1) (by omega)
  exact Ev.congr (f := fun k => laws_eqInt64SS.l0 k ls ls ((0 : Nat) : Int)) (fun k => by unfold laws_eqInt64SS.f; rw [if_pos rfl]; rfl) (L ls.length 0 (by omega))
end Go.Proofs.Ytggjdcijplgpdaa.H
end
