import Derived.Test.YtggjdcijplgpdaazFStocksENeedC
import Derived.Test.YtggjdcijplgpdaazFStocksELayG
import Derived.Test.YtggjdcijplgpdaazFStocksEHOk
import Derived.Test.YtggjdcijplgpdaazFStocksEInH
import Derived.Test.YtggjdcijplgpdaazFStocksH12
import Derived.Test.YtggjdcijplgpdaazFStocksEVHF
import Derived.Test.YtggjdcijplgpdaazFStocksEVHouse
import Derived.Test.YtggjdcijplgpdaazFStocksEVStock
import Derived.Test.YtggjdcijplgpdaazFStocksECloneSt
import Derived.Test.YtggjdcijplgpdaazFStocksH1
import Derived.Test.YtggjdcijplgpdaazFStocksH19
import Derived.Shelf.Abstract
namespace Go.Proofs.Ytggjdcijplgpdaa.H
open Go.RowKit Go.Proofs.YtggjdcijplgpdaaW.PrintWords Go.Proofs.YtggjdcijplgpdaaW.PrintLast Go.Proofs.YtggjdcijplgpdaaW.PrintMore
attribute [local go_sem] max2_int min2_int max_two min_two max_three min_three max_four min_four
set_option linter.unusedVariables false
set_option linter.unusedSimpArgs false
theorem inB_of {lo hi n : Int} (h : lo ≤ n ∧ n ≤ hi) : inB lo hi n = true := by
 unfold inB
 rw [decide_eq_true h.1, decide_eq_true h.2]
 rfl
theorem FitH.typed {l : List S55} {a1 a2 a3 : Int} (h : FitH l a1 a2 a3) : TypedH l a1 a2 a3 :=
 ⟨fun s hs => fit_typed (h.st s hs), by have := h.tub; omega, by have := h.every; omega, by have := h.today; omega⟩
theorem FitH.valid {l : List S55} {a1 a2 a3 : Int} (h : FitH l a1 a2 a3) : validH l a1 a2 a3 = true := by
 unfold validH
 have h0 := h.pos
 have h4 := h.four
 rw [inB_of (show 1 ≤ (l.length : Int) ∧ (l.length : Int) ≤ 4 by omega), inB_of h.tub, inB_of h.every, inB_of h.today]
 have : (l.any fun s => !fitB s) = false := List.any_eq_false.mpr fun s hs => by
  rw [(fitB_iff s).mpr (h.st s hs)]
  simp
 rw [this]
 rfl
theorem kindCode_ok {l : List S55} {a1 a2 a3 : Int} (h : FitH l a1 a2 a3) {n : Int} (hn : 0 ≤ n ∧ n ≤ 500) : impl_kindCode.f 3 l a1 a2 a3 0 n = some 0 := by
 have h0 := h.pos
 have h4 := h.four
 have e1 : impl_ValidHouse.f l a1 a2 a3 = some true := by unfold impl_ValidHouse.f; rw [if_pos (typedHB_iff.mpr h.typed), h.valid]
 have e2 : impl_unless.f true 1 = some 0 := rfl
 have e3 : impl_size_impl_Stock.f l = some (l.length : Int) := rfl
 have e4 : impl_within.f 0 0 (wrap64 ((l.length : Int) - 1)) = some true := by rw [w64i (by omega) (by omega), within_B, inB_of (by omega)]
 have e5 : impl_isPieces.f n = some true := by unfold impl_isPieces.f; rw [within_B, inB_of hn]; rfl
 have e6 : impl_unless.f true 2 = some 0 := rfl
 have e7 : impl_firstOf.f 3 [0, 0] = some 0 := firstOf_two 0 0
 unfold impl_kindCode.f
 simp only [e1, e2, e3, e4, e5, e6, e7, Option.bind_some, if_true]
set_option maxHeartbeats 8000000 in
set_option maxRecDepth 100000 in
theorem asked_walk (w : World) (g : Nat) (A0 : Option Addr) (c0 : Nat) (l : List S55) (a1 a2 a3 : Int) (hs : w.heap[g]? = some (.cells #[.slice A0 l.length c0, .int .i16 a1, .int .i8 a2, .int .i16 a3] 32 (0, 0))) (hr : RowAt w A0 l) (h : FitH l a1 a2 a3) :
 Calls Try.prog 94 #[.pointer (some ⟨g, 0, none⟩), .int .i64 0, .bool true] w fun e w' => e = .returned (.int .i64 0) ∧ Below w.heap.size w w' := by
 have hu32 := Try.underlying32
 have h0 := h.pos
 have h4 := h.four
 have HV := Aside0.mk (fun (w' : World) (_ : w'.heap[g]? = some (.cells #[.slice A0 l.length c0, .int .i16 a1, .int .i8 a2, .int .i16 a3] 32 (0, 0))) => (h.valid ▸ l05Ok_walk w g A0 c0 l a1 a2 a3 hs hr h.typed (by omega) : Calls Try.prog 57 #[.pointer (some ⟨g, 0, none⟩)] w fun e w' => e = .returned (.bool true) ∧ Below w.heap.size w w'))
 have HI := Aside0.mk (fun (w : World) => spec_l00In.calls 0 0 (wrap64 ((l.length : Int) - 1)) true w (by rw [w64i (by omega) (by omega), l00In_B, inB_of (by omega)]))
 have BH := Aside0.mk hs
 have HB := Aside0.mk (Below.refl w.heap.size w)
 clear hs hr h h0 h4
 go_enter Try.func94, Try.ntmps94
 have ST0 := Aside0.mk True.intro
 go_wp2_with (first
  | (have s_ := ST0; go_at_call 57; (with_reducible refine (HV.out _ BH.out).mono ?_); rintro e w1 ⟨rfl, hb⟩; replace BH := Aside0.mk (blk_below BH.out hb); replace HB := Aside0.mk (below_step HB.out hb); clear hb; have qBH0 : w1.cell? ⟨g, 0, none⟩ = some (.slice A0 l.length c0) := (blk_cell BH.out 0).trans rfl; have qBH1 : w1.cell? ⟨g, 1, none⟩ = some (.int .i16 a1) := (blk_cell BH.out 1).trans rfl; have qBH2 : w1.cell? ⟨g, 2, none⟩ = some (.int .i8 a2) := (blk_cell BH.out 2).trans rfl; have qBH3 : w1.cell? ⟨g, 3, none⟩ = some (.int .i16 a3) := (blk_cell BH.out 3).trans rfl; clear ST0 s_; have ST1 := Aside0.mk True.intro)
  | (have s_ := ST1; go_at_call 79; (with_reducible refine (HI.out _).mono ?_); rintro e w2 ⟨rfl, hd⟩; have hb := hd.below; replace BH := Aside0.mk (blk_below BH.out hb); replace HB := Aside0.mk (below_step HB.out hb); clear hb hd; clear qBH0 qBH1 qBH2 qBH3; have qBH0 : w2.cell? ⟨g, 0, none⟩ = some (.slice A0 l.length c0) := (blk_cell BH.out 0).trans rfl; have qBH1 : w2.cell? ⟨g, 1, none⟩ = some (.int .i16 a1) := (blk_cell BH.out 1).trans rfl; have qBH2 : w2.cell? ⟨g, 2, none⟩ = some (.int .i8 a2) := (blk_cell BH.out 2).trans rfl; have qBH3 : w2.cell? ⟨g, 3, none⟩ = some (.int .i16 a3) := (blk_cell BH.out 3).trans rfl; clear ST1 s_; have ST2 := Aside0.mk True.intro))
 go_ret
 exact ⟨rfl, HB.out⟩
end Go.Proofs.Ytggjdcijplgpdaa.H
