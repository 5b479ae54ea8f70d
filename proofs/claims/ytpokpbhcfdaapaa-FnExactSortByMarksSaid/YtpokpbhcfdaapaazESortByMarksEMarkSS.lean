import Derived.Test.YtpokpbhcfdaapaazESortByMarksEConcat
import Derived.Test.YtpokpbhcfdaapaazESortByMarksEEvLoop
import Derived.Test.YtpokpbhcfdaapaazESortByMarksEListsInt64
import Derived.Test.YtpokpbhcfdaapaazESortByMarksM0
import Derived.Test.YtpokpbhcfdaapaazESortByMarksM4
namespace Go.Proofs.Ytpokpbhcfdaapaa.M
open Go.RowKit Go.Proofs.YtpokpbhcfdaapaaW.PrintWords Go.Proofs.YtpokpbhcfdaapaaW.PrintLast Go.Proofs.YtpokpbhcfdaapaaW.PrintMore
attribute [local go_sem] max2_int min2_int max_two min_two max_three min_three max_four min_four
set_option linter.unusedVariables false
set_option linter.unusedSimpArgs false
def markedTo (ls : List (List Int)) (a : Int) : Nat → List (List Int)
  | 0 => ls
  | i + 1 => (markedTo ls a i).set i (marksInt64 (a + ((upTo ls i).length : Int)) (rowAt ls i).length)
theorem markedTo_len (ls : List (List Int)) (a : Int) : ∀ i, (markedTo ls a i).length = ls.length
  | 0 => rfl
  | i + 1 => by rw [markedTo, List.length_set, markedTo_len ls a i]
theorem markedTo_after (ls : List (List Int)) (a : Int) : ∀ i j, i ≤ j → (markedTo ls a i)[j]? = ls[j]?
  | 0, j, _ => rfl
  | i + 1, j, h => by rw [markedTo, List.getElem?_set_ne (by omega), markedTo_after ls a i j (by omega)]
theorem markedTo_before (ls : List (List Int)) (a : Int) : ∀ i j, j < i → j < ls.length → (markedTo ls a i)[j]? = some (marksInt64 (a + ((upTo ls j).length : Int)) (rowAt ls j).length)
  | 0, j, h, _ => by omega
  | i + 1, j, h, hl => by
    rw [markedTo]
    by_cases e : j = i
    · subst e
      rw [List.getElem?_set_self (by rw [markedTo_len]; exact hl)]
    · rw [List.getElem?_set_ne (by omega), markedTo_before ls a i j (by omega) hl]
theorem S_lift {α : Type} {d : Kd α} {e : Nat} {W : World} {base : Nat} {ok : Nat → Prop} {ad : Addr} {n cap : Nat} {xs : List α} (h : Kd.S d e W base ok (.slice (some ad) n cap) xs) (z : α) (i : Nat) (h1 : i < n) :
    ∃ (oki : Nat → Prop) (c : List Value), d.M W base oki (xs.getD i z) c ∧ (∀ j u, c[j]? = some u → W.cell? (ad.add (i * d.sz + j)) = some u) ∧ (∀ k, oki k → ok k) ∧ Kd.H d e W base ok (.slice (some ad) n cap) xs (i : Int) oki c := by
  obtain ⟨g, rfl⟩ := Kd.R_head (Kd.S_R h)
  obtain ⟨oki, c, _, hM, hc, _, hok, hH⟩ := Kd.S_elem h z (i : Int) (by omega) (by omega)
  rw [Int.toNat_natCast] at hM hc
  refine ⟨oki, c, hM, fun j u hu => ?_, fun k hk => (hok k hk).1, hH⟩
  have := hc j u hu
  simp only [add_plain]
  exact this
set_option maxHeartbeats 8000000 in
set_option maxRecDepth 100000 in
theorem markSS_calls (P0 : Nat → Prop) (v : Value) (ls : List (List Int)) (a : Int) (w0 w : World) (hB : Below w0.heap.size w0 w) (hS : Kd.S (Kd.slice 2 (Kd.int .i64)) 22 w w0.heap.size P0 v ls) (ha : 0 ≤ a ∧ a ≤ 1000) (hb : ls.length ≤ 1000) (hf : ls.flatten.length ≤ 1000000) :
    Calls Try.prog 19 #[v, .int .i64 a] w fun e w' => e = .returned (.int .i64 (a + (ls.flatten.length : Int))) ∧ Kd.S (Kd.slice 2 (Kd.int .i64)) 22 w' w0.heap.size P0 v (markedTo ls a ls.length) ∧ Below w0.heap.size w0 w' ∧ Kept w w' P0 := by
  obtain ⟨A, cap, rfl⟩ := Kd.S_slice hS
  have HS := Aside0.mk hS
  have HB := Aside0.mk hB
  have HK := Aside0.mk (Kept.refl w P0)
  have HF := Aside0.mk hf
  have HL := Aside0.mk hb
  have HA := Aside0.mk ha
  have hut := congrArg List.length (upTo_all ls)
  obtain ⟨tot, htot⟩ : ∃ t : Nat, ls.flatten.length = t := ⟨_, rfl⟩
  rw [htot] at hut ⊢
  have HUT := Aside0.mk hut
  clear hS hB ha hb hf hut htot
  go_enter Try.func19, Try.ntmps19
  go_wp2
  go_loopg [1, 5] ls.length (fun gg v1 v5 w' => ∃ (kk : Nat), kk ≤ ls.length ∧ ls.length - kk ≤ gg ∧ v1 = .int .i64 (a + ((upTo ls kk).length : Int)) ∧ v5 = .int .i64 (kk : Int) ∧ Aside0 (Kd.S (Kd.slice 2 (Kd.int .i64)) 22 w' w0.heap.size P0 (.slice A ls.length cap) (markedTo ls a kk)) ∧ Aside0 (Below w0.heap.size w0 w') ∧ Aside0 (Kept w w' P0))
  case atStart => exact ⟨0, Nat.zero_le _, by omega, by simp [upTo], rfl, HS, HB, HK⟩
  case round =>
    clear HS HB HK
    obtain ⟨kk, hkk, hg, rfl, rfl, HS, HB, HK⟩ := hrel
    by_cases hlt : kk < ls.length
    · have hltz : (kk : Int) < (ls.length : Int) := by omega
      obtain ⟨ad, rfl⟩ : ∃ ad, A = some ad := by
        obtain ⟨g, c, e, _⟩ := Kd.S_form HS.out (by rw [markedTo_len]; omega)
        injection e with e1 e2 e3
        exact ⟨_, e1⟩
      obtain ⟨oki, c, hM, hcell, hoki, hH⟩ := S_lift HS.out ([] : List Int) kk hlt
      obtain ⟨vi, rfl, hRi⟩ := hM
      have hx : wr.cell? (ad.add kk) = some vi := by
        have := hcell 0 vi rfl
        rw [show ((Kd.slice 2 (Kd.int .i64)) : Kd (List Int)).sz = 1 from rfl, Nat.mul_one, Nat.add_zero] at this
        exact this
      have hrow : (markedTo ls a kk).getD kk [] = rowAt ls kk := by
        rw [List.getD_eq_getElem?_getD, markedTo_after ls a kk kk (Nat.le_refl _)]
        unfold rowAt
        rw [List.getD_eq_getElem?_getD]
      rw [hrow] at hRi
      have hle := upTo_le ls (kk + 1)
      have hsc := congrArg List.length (upTo_succ ls kk hlt)
      rw [List.length_append] at hsc
      have hEv := laws_markInt64S.ev (rowAt ls kk) (a + ((upTo ls kk).length : Int)) (by have := HA.out; omega) (by have := HA.out; have := HF.out; omega) (by have := HF.out; omega)
      obtain ⟨km, hkm⟩ := Ev.get hEv
      have HC := Aside0.mk (laws_markInt64S.calls km (fun k_ => some k_ = vi.ownBlock) vi (rowAt ls kk) (a + ((upTo ls kk).length : Int)) _ _ w0 wr HB.out (Kd.R_tight rfl hRi) hkm)
      have HRi := Aside0.mk hRi
      have HH := Aside0.mk hH
      have hnext : a + ((upTo ls kk).length : Int) + ((rowAt ls kk).length : Int) = a + ((upTo ls (kk + 1)).length : Int) := by omega
      have HOK := Aside0.mk hoki
      obtain ⟨T, hT⟩ : ∃ T, a + ((upTo ls kk).length : Int) = T := ⟨_, rfl⟩
      rw [hT] at HC hnext ⊢
      have HN := Aside0.mk hnext
      have HT := Aside0.mk hT
      have hk1 : wrap64 ((kk : Int) + 1) = ((kk + 1 : Nat) : Int) := by have := HL.out; unfold wrap64; omega
      clear hcell hoki hH hRi hkm hEv hle hsc hrow hnext hT
      go_wp2_with (go_at_call 11; refine HC.out.mono ?_; rintro e w2 ⟨rfl, hR2, hB2, hK2⟩; have HR2 := Aside0.mk hR2; have HB2 := Aside0.mk hB2; have HK2 := Aside0.mk hK2; clear hR2 hB2 hK2)
      go_roundg (ls.length - (kk + 1))
      case measure => omega
      case rel =>
        refine ⟨kk + 1, by omega, by omega, by rw [HN.out], by rw [hk1], ⟨?_⟩, HB2, ⟨HK.out.then_ HK2.out (fun k hk => .inl ?_)⟩⟩
        · have h1 := Kd.H_kept HH.out HK2.out (fun k _ hn hs => hn (HRi.out.1 k hs.symm))
          have h2 := Kd.H_back h1 (x' := marksInt64 T (rowAt ls kk).length) (okp := oki) ⟨vi, rfl, Kd.R_reok rfl HR2.out (fun k hk => HRi.out.1 k hk)⟩ (fun k hk => hk)
          rw [Int.toNat_natCast] at h2
          rw [markedTo, HT.out]
          exact h2
        · exact HOK.out k (HRi.out.1 k hk.symm)
    · have hltz : ¬ (kk : Int) < (ls.length : Int) := by omega
      obtain rfl : kk = ls.length := by omega
      go_wp2
      go_ret
      exact ⟨by rw [← HUT.out]; rfl, HS.out, HB.out, HK.out⟩
end Go.Proofs.Ytpokpbhcfdaapaa.M
