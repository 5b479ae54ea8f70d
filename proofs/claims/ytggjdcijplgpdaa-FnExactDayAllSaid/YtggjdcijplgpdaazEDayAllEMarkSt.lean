import Derived.Test.YtggjdcijplgpdaazEDayAllEIdx8
import Derived.Test.YtggjdcijplgpdaazEDayAllEPredInt64
import Derived.Test.YtggjdcijplgpdaazEDayAllEMem
import Derived.Shelf.Abstract
namespace Go.Proofs.Ytggjdcijplgpdaa.H
open Go.RowKit Go.Proofs.YtggjdcijplgpdaaW.PrintWords Go.Proofs.YtggjdcijplgpdaaW.PrintLast Go.Proofs.YtggjdcijplgpdaaW.PrintMore
attribute [local go_sem] max2_int min2_int max_two min_two max_three min_three max_four min_four
set_option linter.unusedVariables false
set_option linter.unusedSimpArgs false
def wr_ (j : Nat) (v : Int) : Int := if j < 24 then IntKind.i16.wrap v else IntKind.i32.wrap v
def Marked1 (s : S55) (b : Int) (n : Nat) : Prop := ∀ j, j < n → s.at_ j = wr_ j (b + (j : Int))
theorem Marked1.zero (s : S55) (b : Int) : Marked1 s b 0 := fun _ h => absurd h (by omega)
theorem Marked1.next {s : S55} {b : Int} {n : Nat} (h : Marked1 s b n) (hn : n < 25) : Marked1 (s.put n (wr_ n (b + (n : Int)))) b (n + 1) := fun j hj => by
  rw [S55.put_at _ _ _ _ hn]
  by_cases e : j = n
  · rw [if_pos e, e]
  · rw [if_neg e]
    exact h j (by omega)
def MarkedL (l : List S55) (a : Int) (n : Nat) : Prop := ∀ k, k < n → Marked1 (l.getD k z55) (a + 25 * (k : Int)) 25
theorem MarkedL.set {l : List S55} {a : Int} {n : Nat} (h : MarkedL l a n) (hn : n < l.length) {s : S55} (hs : Marked1 s (a + 25 * (n : Int)) 25) : MarkedL (l.set n s) a (n + 1) := fun k hk => by
  by_cases e : k = n
  · subst e
    rw [List.getD_eq_getElem?_getD, List.getElem?_set_self hn]
    exact hs
  · rw [List.getD_eq_getElem?_getD, List.getElem?_set_ne (fun q => e q.symm), ← List.getD_eq_getElem?_getD]
    exact h k (by omega)
theorem grown_same {w0 w1 w2 : World} {r : Option Nat} (h : w0.grownBy w1 r) (h2 : w1.grownBy w2 r) : w0.grownBy w2 r :=
  ⟨h2.os.trans h.os, h2.tape.trans h.tape, h2.output.trans h.output, Nat.le_trans h.size h2.size, fun b hb hn => (h2.block b (Nat.lt_of_lt_of_le hb h.size) hn).trans (h.block b hb hn)⟩
set_option maxHeartbeats 8000000 in
set_option maxRecDepth 100000 in
theorem markSt_walk (W : World) (g cap : Nat) (l : List S55) (a : Int) (hr : RowSt W g cap l) (ha : 0 ≤ a ∧ a ≤ 1000000000) (hl : l.length ≤ 10000000) :
    Calls Try.prog 68 #[.slice (some ⟨g, 0, none⟩) l.length cap, .int .i64 a] W fun e w' => e = .returned (.int .i64 (a + 25 * (l.length : Int))) ∧ ∃ l' : List S55, l'.length = l.length ∧ MarkedL l' a l.length ∧ RowSt w' g cap l' ∧ W.grownBy w' (some g) := by
  have hu53 := Try.underlying53
  have hu55 := Try.underlying55
  have HR := Aside0.mk hr
  have HLL := Aside0.mk hl
  have HA := Aside0.mk ha
  clear hr hl ha
  go_enter Try.func68, Try.ntmps68
  go_wp2
  go_loopg [1, 5] l.length (fun gk v1 v5 w' => ∃ (kk : Nat) (lk : List S55), kk ≤ l.length ∧ l.length - kk ≤ gk ∧ v1 = .int .i64 (a + 25 * (kk : Int)) ∧ v5 = .int .i64 (kk : Int) ∧ Aside0 (lk.length = l.length) ∧ Aside0 (MarkedL lk a kk) ∧ Aside0 (RowSt w' g cap lk) ∧ Aside0 (W.grownBy w' (some g)))
  case atStart => exact ⟨0, l, by omega, by omega, by simp, rfl, ⟨rfl⟩, ⟨fun k hk => absurd hk (by omega)⟩, HR, ⟨World.grownBy.refl W _⟩⟩
  case round =>
    clear HR
    obtain ⟨kk, lk, hkk, hgk, rfl, rfl, HKL, HML, HR, HG⟩ := hrel
    by_cases hlt : kk < l.length
    · have hltz : (kk : Int) < (l.length : Int) := by omega
      have hk0 : 0 ≤ (kk : Int) := by omega
      have HLT := Aside0.mk hlt
      have HLK := Aside0.mk (show kk < lk.length by rw [HKL.out]; exact hlt)
      obtain ⟨cs, hC, E0⟩ := elem_of_row HR.out HLK.out
      obtain ⟨o, ho⟩ : ∃ o, kk * 25 = o := ⟨_, rfl⟩
      generalize lk.getD kk z55 = s at E0
      obtain ⟨b, hb⟩ : ∃ b, a + 25 * (kk : Int) = b := ⟨_, rfl⟩
      have HBQ := Aside0.mk hb
      have HBB := Aside0.mk (show 0 ≤ b ∧ b ≤ 2000000000 by have := HLL.out; have := HA.out; omega)
      rw [hb]
      have HC := Aside0.mk hC
      have HO := Aside0.mk ho
      have E := Aside0.mk (ho ▸ E0)
      clear E0 hC hb HR hlt
      go_wp2
      obtain ⟨W1, hW1⟩ : ∃ W1, W1 = wr := ⟨_, rfl⟩
      have E := Aside0.mk (show InSt W1 g o 55 cs s wr from hW1 ▸ E.out)
      have HG := Aside0.mk (show W.grownBy W1 (some g) from hW1 ▸ HG.out)
      clear hW1
      go_loopg [1, 6] 8 (fun gk v1 v6 w' => ∃ (j : Nat) (s' : S55), j ≤ 8 ∧ 8 - j ≤ gk ∧ v1 = .int .i64 (b + (j : Int)) ∧ v6 = .int .i64 (j : Int) ∧ Aside0 (Marked1 s' b j) ∧ Aside0 (InSt W1 g o 55 cs s' w'))
      case atStart => exact ⟨0, s, by omega, by omega, by first | (simp; done) | (simp; omega), rfl, ⟨Marked1.zero _ _⟩, E⟩
      case round =>
        clear E
        obtain ⟨j, s0, hj, hgj, rfl, rfl, HM, E⟩ := hrel
        by_cases hlt0 : j < 8
        · have hltz : (j : Int) < 8 := by omega
          have hj0 : 0 ≤ (j : Int) := by omega
          have HJ := Aside0.mk hlt0
          have cQ : wr.cell? ⟨g, o + j, none⟩ = some (.int .i16 (s0.at_ j)) := by
            have h := E.out.cell j (by omega)
            rw [show encSt j (s0.at_ j) = .int .i16 (s0.at_ j) by unfold encSt; rw [if_pos (by omega)]] at h
            exact h
          have fQ : wr.frozen? ⟨g, o + j, none⟩ = false := E.out.free _
          have HN := Aside0.mk (HM.out.next (by omega))
          have HE := Aside0.mk (E.out.put j (by omega) (wr_ j (b + ((j : Nat) : Int))))
          have hpw := (show wr_ j (b + ((j : Nat) : Int)) = IntKind.i16.wrap (b + (j : Int)) by unfold wr_; rw [if_pos (by omega)] <;> first | rfl | (congr 1; omega))
          have hen : encSt j (IntKind.i16.wrap (b + (j : Int))) = .int .i16 (IntKind.i16.wrap (b + (j : Int))) := by unfold encSt; rw [if_pos (by omega)]
          have HE2 := HE.out
          rw [hpw, hen] at HE2
          have HN2 := HN.out
          rw [hpw] at HN2
          have HE3 := Aside0.mk HE2
          have HN3 := Aside0.mk HN2
          clear HE HN HE2 HN2 hpw hen HM E hlt0
          obtain ⟨bv, hbv⟩ : ∃ x, b + (j : Int) = x := ⟨_, rfl⟩
          rw [hbv] at HE3 HN3 ⊢
          have HBV := Aside0.mk hbv
          clear hbv
          go_wp2
          have hj9 := HJ.out
          have hb9 := HBB.out
          have hbv := HBV.out
          go_roundg (8 - (j + 1))
          case measure => omega
          case rel => exact ⟨j + 1, _, by omega, by omega, by first | (have hw_ : wrap64 (bv + 1) = b + ((j + 1 : Nat) : Int) := (w64i (by omega) (by omega)).trans (by omega); first | rfl | rw [hw_] | (simp only [i64_w, hw_])) | go_num, by have hw_ : wrap64 ((j : Int) + 1) = ((j + 1 : Nat) : Int) := (w64i (by omega) (by omega)).trans (by omega); first | rfl | rw [hw_] | (simp only [i64_w, hw_]) | go_num, HN3, HE3⟩
        · have hltz : ¬ (j : Int) < 8 := by omega
          obtain rfl : j = 8 := by omega
          go_wp2
          go_loopg [1, 7] 8 (fun gk v1 v6 w' => ∃ (j : Nat) (s' : S55), j ≤ 8 ∧ 8 - j ≤ gk ∧ v1 = .int .i64 (b + 8 + (j : Int)) ∧ v6 = .int .i64 (j : Int) ∧ Aside0 (Marked1 s' b (8 + j)) ∧ Aside0 (InSt W1 g o 55 cs s' w'))
          case atStart => exact ⟨0, s0, by omega, by omega, by first | (simp; done) | (simp; omega), rfl, HM, E⟩
          case round =>
            clear E
            obtain ⟨j, s1, hj, hgj, rfl, rfl, HM, E⟩ := hrel
            by_cases hlt1 : j < 8
            · have hltz : (j : Int) < 8 := by omega
              have hj0 : 0 ≤ (j : Int) := by omega
              have HJ := Aside0.mk hlt1
              have cQ : wr.cell? ⟨g, o + 8 + j, none⟩ = some (.int .i16 (s1.at_ (8 + j))) := by
                have h := E.out.cell (8 + j) (by omega)
                rw [show encSt (8 + j) (s1.at_ (8 + j)) = .int .i16 (s1.at_ (8 + j)) by unfold encSt; rw [if_pos (by omega)], ← Nat.add_assoc] at h
                exact h
              have fQ : wr.frozen? ⟨g, o + 8 + j, none⟩ = false := E.out.free _
              have HN := Aside0.mk (HM.out.next (by omega))
              have HE := Aside0.mk (E.out.put (8 + j) (by omega) (wr_ (8 + j) (b + (((8 + j) : Nat) : Int))))
              have hpw := (show wr_ (8 + j) (b + (((8 + j) : Nat) : Int)) = IntKind.i16.wrap (b + 8 + (j : Int)) by unfold wr_; rw [if_pos (by omega)] <;> first | rfl | (congr 1; omega))
              have hen : encSt (8 + j) (IntKind.i16.wrap (b + 8 + (j : Int))) = .int .i16 (IntKind.i16.wrap (b + 8 + (j : Int))) := by unfold encSt; rw [if_pos (by omega)]
              have HE2 := HE.out
              rw [hpw, hen, ← Nat.add_assoc] at HE2
              have HN2 := HN.out
              rw [hpw] at HN2
              have HE3 := Aside0.mk HE2
              have HN3 := Aside0.mk HN2
              clear HE HN HE2 HN2 hpw hen HM E hlt1
              obtain ⟨bv, hbv⟩ : ∃ x, b + 8 + (j : Int) = x := ⟨_, rfl⟩
              rw [hbv] at HE3 HN3 ⊢
              have HBV := Aside0.mk hbv
              clear hbv
              go_wp2
              have hj9 := HJ.out
              have hb9 := HBB.out
              have hbv := HBV.out
              go_roundg (8 - (j + 1))
              case measure => omega
              case rel => exact ⟨j + 1, _, by omega, by omega, by first | (have hw_ : wrap64 (bv + 1) = b + 8 + ((j + 1 : Nat) : Int) := (w64i (by omega) (by omega)).trans (by omega); first | rfl | rw [hw_] | (simp only [i64_w, hw_])) | go_num, by have hw_ : wrap64 ((j : Int) + 1) = ((j + 1 : Nat) : Int) := (w64i (by omega) (by omega)).trans (by omega); first | rfl | rw [hw_] | (simp only [i64_w, hw_]) | go_num, HN3, HE3⟩
            · have hltz : ¬ (j : Int) < 8 := by omega
              obtain rfl : j = 8 := by omega
              go_wp2
              go_loopg [1, 8] 8 (fun gk v1 v6 w' => ∃ (j : Nat) (s' : S55), j ≤ 8 ∧ 8 - j ≤ gk ∧ v1 = .int .i64 (b + 16 + (j : Int)) ∧ v6 = .int .i64 (j : Int) ∧ Aside0 (Marked1 s' b (16 + j)) ∧ Aside0 (InSt W1 g o 55 cs s' w'))
              case atStart => exact ⟨0, s1, by omega, by omega, by first | (simp; done) | (simp; omega), rfl, HM, E⟩
              case round =>
                clear E
                obtain ⟨j, s2, hj, hgj, rfl, rfl, HM, E⟩ := hrel
                by_cases hlt2 : j < 8
                · have hltz : (j : Int) < 8 := by omega
                  have hj0 : 0 ≤ (j : Int) := by omega
                  have HJ := Aside0.mk hlt2
                  have cQ : wr.cell? ⟨g, o + 16 + j, none⟩ = some (.int .i16 (s2.at_ (16 + j))) := by
                    have h := E.out.cell (16 + j) (by omega)
                    rw [show encSt (16 + j) (s2.at_ (16 + j)) = .int .i16 (s2.at_ (16 + j)) by unfold encSt; rw [if_pos (by omega)], ← Nat.add_assoc] at h
                    exact h
                  have fQ : wr.frozen? ⟨g, o + 16 + j, none⟩ = false := E.out.free _
                  have HN := Aside0.mk (HM.out.next (by omega))
                  have HE := Aside0.mk (E.out.put (16 + j) (by omega) (wr_ (16 + j) (b + (((16 + j) : Nat) : Int))))
                  have hpw := (show wr_ (16 + j) (b + (((16 + j) : Nat) : Int)) = IntKind.i16.wrap (b + 16 + (j : Int)) by unfold wr_; rw [if_pos (by omega)] <;> first | rfl | (congr 1; omega))
                  have hen : encSt (16 + j) (IntKind.i16.wrap (b + 16 + (j : Int))) = .int .i16 (IntKind.i16.wrap (b + 16 + (j : Int))) := by unfold encSt; rw [if_pos (by omega)]
                  have HE2 := HE.out
                  rw [hpw, hen, ← Nat.add_assoc] at HE2
                  have HN2 := HN.out
                  rw [hpw] at HN2
                  have HE3 := Aside0.mk HE2
                  have HN3 := Aside0.mk HN2
                  clear HE HN HE2 HN2 hpw hen HM E hlt2
                  obtain ⟨bv, hbv⟩ : ∃ x, b + 16 + (j : Int) = x := ⟨_, rfl⟩
                  rw [hbv] at HE3 HN3 ⊢
                  have HBV := Aside0.mk hbv
                  clear hbv
                  go_wp2
                  have hj9 := HJ.out
                  have hb9 := HBB.out
                  have hbv := HBV.out
                  go_roundg (8 - (j + 1))
                  case measure => omega
                  case rel => exact ⟨j + 1, _, by omega, by omega, by first | (have hw_ : wrap64 (bv + 1) = b + 16 + ((j + 1 : Nat) : Int) := (w64i (by omega) (by omega)).trans (by omega); first | rfl | rw [hw_] | (simp only [i64_w, hw_])) | go_num, by have hw_ : wrap64 ((j : Int) + 1) = ((j + 1 : Nat) : Int) := (w64i (by omega) (by omega)).trans (by omega); first | rfl | rw [hw_] | (simp only [i64_w, hw_]) | go_num, HN3, HE3⟩
                · have hltz : ¬ (j : Int) < 8 := by omega
                  obtain rfl : j = 8 := by omega
                  have c24 : wr.cell? ⟨g, o + 24, none⟩ = some (.int .i32 (s2.at_ 24)) := E.out.cell 24 (by decide)
                  have f24 : wr.frozen? ⟨g, o + 24, none⟩ = false := E.out.free _
                  have HN := Aside0.mk (HM.out.next (by omega))
                  have HE := Aside0.mk (E.out.put 24 (by decide) (wr_ 24 (b + ((24 : Nat) : Int))))
                  obtain ⟨bv, hbv⟩ : ∃ x, b + 16 + ((8 : Nat) : Int) = x := ⟨_, rfl⟩
                  have hpw : wr_ 24 (b + ((24 : Nat) : Int)) = wrap32 bv := by unfold wr_; rw [if_neg (by omega), show b + ((24 : Nat) : Int) = bv by omega, i32_w]
                  have HE2 := HE.out
                  have HN2 := HN.out
                  rw [show (16 + 8 : Nat) = 24 from rfl] at HN2
                  rw [hpw] at HE2 HN2
                  have HE := Aside0.mk (show InSt W1 g o 55 cs (s2.put 24 (wrap32 bv)) (wr.setCell ⟨g, o + 24, none⟩ (.int .i32 (wrap32 bv))) from HE2)
                  have HN := Aside0.mk HN2
                  have HBV := Aside0.mk hbv
                  rw [hbv]
                  clear HE2 HN2 hpw hbv
                  have HL2 := Aside0.mk (HML.out.set HLK.out (s := s2.put 24 (wrap32 bv)) (by rw [HBQ.out]; exact HN.out))
                  have HW2 := Aside0.mk (And.intro (show RowSt (wr.setCell ⟨g, o + 24, none⟩ (.int .i32 (wrap32 bv))) g cap (lk.set kk (s2.put 24 (wrap32 bv))) by have hE := HE.out; generalize wr.setCell ⟨g, o + 24, none⟩ (.int .i32 (wrap32 bv)) = wz at hE ⊢; rw [← HO.out] at hE; exact row_of_elem HC.out HLK.out hE) (grown_same HG.out HE.out.gr))
                  clear HM E HN HE HG HML
                  go_wp2
                  have hb8 := HBB.out
                  have hbq := HBQ.out
                  have hbv := HBV.out
                  have hl_ := HLT.out
                  have hm_ := HLL.out
                  go_roundg (l.length - (kk + 1))
                  case measure => omega
                  case rel => exact ⟨kk + 1, _, by omega, by omega, by first | (have hw_ : wrap64 (bv + 1) = a + 25 * ((kk + 1 : Nat) : Int) := (w64i (by omega) (by omega)).trans (by omega); first | rfl | rw [hw_] | (simp only [i64_w, hw_]; done)) | go_num, by have hw_ : wrap64 ((kk : Int) + 1) = ((kk + 1 : Nat) : Int) := (w64i (by omega) (by omega)).trans (by omega); first | rfl | rw [hw_] | (simp only [i64_w, hw_]) | go_num, ⟨by rw [List.length_set]; exact HKL.out⟩, HL2, ⟨HW2.out.1⟩, ⟨HW2.out.2⟩⟩
    · have hltz : ¬ (kk : Int) < (l.length : Int) := by omega
      obtain rfl : kk = l.length := by omega
      go_wp2
      go_ret
      exact ⟨rfl, lk, HKL.out, HML.out, HR.out, HG.out⟩
set_option maxHeartbeats 8000000 in
set_option maxRecDepth 100000 in
theorem heldSt_walk (W : World) (g cap : Nat) (l : List S55) (a : Int) (hr : RowSt W g cap l) (hm : MarkedL l a l.length) (ha : 0 ≤ a ∧ a ≤ 1000000000) (hl : l.length ≤ 10000000) :
    Calls Try.prog 69 #[.slice (some ⟨g, 0, none⟩) l.length cap, .int .i64 a] W fun e w' => e = .returned (.int .i64 (a + 25 * (l.length : Int))) ∧ Below W.heap.size W w' := by
  have hu53 := Try.underlying53
  have hu55 := Try.underlying55
  have HCA := Aside0.mk (show ∀ k, k < l.length → ∀ j, j < 25 → ∀ w', Below W.heap.size W w' → w'.cell? ⟨g, k * 25 + j, none⟩ = some (encSt j (wr_ j (a + 25 * (k : Int) + (j : Int)))) by
    intro k hk j hj w' hb
    obtain ⟨cs, _, E⟩ := elem_of_row (hr.move (hb.block _ hr.lt)) hk
    rw [E.cell j hj, hm k hk j hj])
  have HLL := Aside0.mk hl
  have HA := Aside0.mk ha
  clear hr hl ha hm
  go_enter Try.func69, Try.ntmps69
  go_wp2
  go_loopg [1, 5] l.length (fun gk v1 v5 w' => ∃ (kk : Nat), kk ≤ l.length ∧ l.length - kk ≤ gk ∧ v1 = .int .i64 (a + 25 * (kk : Int)) ∧ v5 = .int .i64 (kk : Int) ∧ Aside0 (Below W.heap.size W w'))
  case atStart => exact ⟨0, by omega, by omega, by simp, rfl, ⟨Below.refl _ _⟩⟩
  case round =>
    obtain ⟨kk, hkk, hgk, rfl, rfl, HB⟩ := hrel
    by_cases hlt : kk < l.length
    · have hltz : (kk : Int) < (l.length : Int) := by omega
      have hk0 : 0 ≤ (kk : Int) := by omega
      have HLT := Aside0.mk hlt
      obtain ⟨o, ho⟩ : ∃ o, kk * 25 = o := ⟨_, rfl⟩
      obtain ⟨b, hb⟩ : ∃ b, a + 25 * (kk : Int) = b := ⟨_, rfl⟩
      have HBQ := Aside0.mk hb
      have HBB := Aside0.mk (show 0 ≤ b ∧ b ≤ 2000000000 by have := HLL.out; have := HA.out; omega)
      have HCELL := Aside0.mk (show ∀ j, j < 25 → ∀ w', Below W.heap.size W w' → w'.cell? ⟨g, o + j, none⟩ = some (encSt j (wr_ j (b + (j : Int)))) by
        intro j hj w' hw
        rw [← ho, ← hb]
        exact HCA.out kk hlt j hj w' hw)
      rw [hb]
      clear hb hlt
      go_wp2
      go_loopg [1, 6] 8 (fun gk v1 v6 w' => ∃ (j : Nat), j ≤ 8 ∧ 8 - j ≤ gk ∧ v1 = .int .i64 (b + (j : Int)) ∧ v6 = .int .i64 (j : Int) ∧ Aside0 (Below W.heap.size W w'))
      case atStart => exact ⟨0, by omega, by omega, by first | (simp; done) | (simp; omega), rfl, HB⟩
      case round =>
        clear HB
        obtain ⟨j, hj, hgj, rfl, rfl, HB⟩ := hrel
        by_cases hlt0 : j < 8
        · have hltz : (j : Int) < 8 := by omega
          have hj0 : 0 ≤ (j : Int) := by omega
          have HJ := Aside0.mk hlt0
          obtain ⟨bv, hbv⟩ : ∃ x, b + (j : Int) = x := ⟨_, rfl⟩
          have cQ : wr.cell? ⟨g, o + j, none⟩ = some (.int .i16 (IntKind.i16.wrap bv)) := by
            have h := HCELL.out j (by omega) wr HB.out
            rw [show wr_ j (b + ((j : Nat) : Int)) = IntKind.i16.wrap (b + (j : Int)) by unfold wr_; rw [if_pos (by omega)] <;> first | rfl | (congr 1; omega), hbv, show encSt j (IntKind.i16.wrap bv) = .int .i16 (IntKind.i16.wrap bv) by unfold encSt; rw [if_pos (by omega)]] at h
            exact h
          rw [hbv]
          have HBV := Aside0.mk hbv
          clear hbv hlt0
          go_wp2
          have hj9 := HJ.out
          have hb9 := HBB.out
          have hbv := HBV.out
          go_roundg (8 - (j + 1))
          case measure => omega
          case rel => exact ⟨j + 1, by omega, by omega, by first | (have hw_ : wrap64 (bv + 1) = b + ((j + 1 : Nat) : Int) := (w64i (by omega) (by omega)).trans (by omega); first | rfl | rw [hw_] | (simp only [i64_w, hw_])) | go_num, by have hw_ : wrap64 ((j : Int) + 1) = ((j + 1 : Nat) : Int) := (w64i (by omega) (by omega)).trans (by omega); first | rfl | rw [hw_] | (simp only [i64_w, hw_]) | go_num, HB⟩
        · have hltz : ¬ (j : Int) < 8 := by omega
          obtain rfl : j = 8 := by omega
          go_wp2
          go_loopg [1, 7] 8 (fun gk v1 v6 w' => ∃ (j : Nat), j ≤ 8 ∧ 8 - j ≤ gk ∧ v1 = .int .i64 (b + 8 + (j : Int)) ∧ v6 = .int .i64 (j : Int) ∧ Aside0 (Below W.heap.size W w'))
          case atStart => exact ⟨0, by omega, by omega, by first | (simp; done) | (simp; omega), rfl, HB⟩
          case round =>
            clear HB
            obtain ⟨j, hj, hgj, rfl, rfl, HB⟩ := hrel
            by_cases hlt1 : j < 8
            · have hltz : (j : Int) < 8 := by omega
              have hj0 : 0 ≤ (j : Int) := by omega
              have HJ := Aside0.mk hlt1
              obtain ⟨bv, hbv⟩ : ∃ x, b + 8 + (j : Int) = x := ⟨_, rfl⟩
              have cQ : wr.cell? ⟨g, o + 8 + j, none⟩ = some (.int .i16 (IntKind.i16.wrap bv)) := by
                have h := HCELL.out (8 + j) (by omega) wr HB.out
                rw [show wr_ (8 + j) (b + (((8 + j) : Nat) : Int)) = IntKind.i16.wrap (b + 8 + (j : Int)) by unfold wr_; rw [if_pos (by omega)] <;> first | rfl | (congr 1; omega), hbv, show encSt (8 + j) (IntKind.i16.wrap bv) = .int .i16 (IntKind.i16.wrap bv) by unfold encSt; rw [if_pos (by omega)], ← Nat.add_assoc] at h
                exact h
              rw [hbv]
              have HBV := Aside0.mk hbv
              clear hbv hlt1
              go_wp2
              have hj9 := HJ.out
              have hb9 := HBB.out
              have hbv := HBV.out
              go_roundg (8 - (j + 1))
              case measure => omega
              case rel => exact ⟨j + 1, by omega, by omega, by first | (have hw_ : wrap64 (bv + 1) = b + 8 + ((j + 1 : Nat) : Int) := (w64i (by omega) (by omega)).trans (by omega); first | rfl | rw [hw_] | (simp only [i64_w, hw_])) | go_num, by have hw_ : wrap64 ((j : Int) + 1) = ((j + 1 : Nat) : Int) := (w64i (by omega) (by omega)).trans (by omega); first | rfl | rw [hw_] | (simp only [i64_w, hw_]) | go_num, HB⟩
            · have hltz : ¬ (j : Int) < 8 := by omega
              obtain rfl : j = 8 := by omega
              go_wp2
              go_loopg [1, 8] 8 (fun gk v1 v6 w' => ∃ (j : Nat), j ≤ 8 ∧ 8 - j ≤ gk ∧ v1 = .int .i64 (b + 16 + (j : Int)) ∧ v6 = .int .i64 (j : Int) ∧ Aside0 (Below W.heap.size W w'))
              case atStart => exact ⟨0, by omega, by omega, by first | (simp; done) | (simp; omega), rfl, HB⟩
              case round =>
                clear HB
                obtain ⟨j, hj, hgj, rfl, rfl, HB⟩ := hrel
                by_cases hlt2 : j < 8
                · have hltz : (j : Int) < 8 := by omega
                  have hj0 : 0 ≤ (j : Int) := by omega
                  have HJ := Aside0.mk hlt2
                  obtain ⟨bv, hbv⟩ : ∃ x, b + 16 + (j : Int) = x := ⟨_, rfl⟩
                  have cQ : wr.cell? ⟨g, o + 16 + j, none⟩ = some (.int .i16 (IntKind.i16.wrap bv)) := by
                    have h := HCELL.out (16 + j) (by omega) wr HB.out
                    rw [show wr_ (16 + j) (b + (((16 + j) : Nat) : Int)) = IntKind.i16.wrap (b + 16 + (j : Int)) by unfold wr_; rw [if_pos (by omega)] <;> first | rfl | (congr 1; omega), hbv, show encSt (16 + j) (IntKind.i16.wrap bv) = .int .i16 (IntKind.i16.wrap bv) by unfold encSt; rw [if_pos (by omega)], ← Nat.add_assoc] at h
                    exact h
                  rw [hbv]
                  have HBV := Aside0.mk hbv
                  clear hbv hlt2
                  go_wp2
                  have hj9 := HJ.out
                  have hb9 := HBB.out
                  have hbv := HBV.out
                  go_roundg (8 - (j + 1))
                  case measure => omega
                  case rel => exact ⟨j + 1, by omega, by omega, by first | (have hw_ : wrap64 (bv + 1) = b + 16 + ((j + 1 : Nat) : Int) := (w64i (by omega) (by omega)).trans (by omega); first | rfl | rw [hw_] | (simp only [i64_w, hw_])) | go_num, by have hw_ : wrap64 ((j : Int) + 1) = ((j + 1 : Nat) : Int) := (w64i (by omega) (by omega)).trans (by omega); first | rfl | rw [hw_] | (simp only [i64_w, hw_]) | go_num, HB⟩
                · have hltz : ¬ (j : Int) < 8 := by omega
                  obtain rfl : j = 8 := by omega
                  obtain ⟨bv, hbv⟩ : ∃ x, b + 16 + ((8 : Nat) : Int) = x := ⟨_, rfl⟩
                  have c24 : wr.cell? ⟨g, o + 24, none⟩ = some (.int .i32 (IntKind.i32.wrap bv)) := by
                    have h := HCELL.out 24 (by decide) wr HB.out
                    rw [show wr_ 24 (b + ((24 : Nat) : Int)) = IntKind.i32.wrap bv by unfold wr_; rw [if_neg (by omega), show b + ((24 : Nat) : Int) = bv by omega]] at h
                    exact h
                  have HBV := Aside0.mk hbv
                  rw [hbv]
                  clear hbv
                  go_wp2
                  have hb8 := HBB.out
                  have hbq := HBQ.out
                  have hbv := HBV.out
                  have hl_ := HLT.out
                  have hm_ := HLL.out
                  go_roundg (l.length - (kk + 1))
                  case measure => omega
                  case rel => exact ⟨kk + 1, by omega, by omega, by first | (have hw_ : wrap64 (bv + 1) = a + 25 * ((kk + 1 : Nat) : Int) := (w64i (by omega) (by omega)).trans (by omega); first | rfl | rw [hw_] | (simp only [i64_w, hw_]; done)) | go_num, by have hw_ : wrap64 ((kk : Int) + 1) = ((kk + 1 : Nat) : Int) := (w64i (by omega) (by omega)).trans (by omega); first | rfl | rw [hw_] | (simp only [i64_w, hw_]) | go_num, HB⟩
    · have hltz : ¬ (kk : Int) < (l.length : Int) := by omega
      obtain rfl : kk = l.length := by omega
      go_wp2
      go_ret
      exact ⟨rfl, HB.out⟩
end Go.Proofs.Ytggjdcijplgpdaa.H
