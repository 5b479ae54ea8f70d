import Derived.Test.YtpokpbhcfdaapaazFClassesM0
import Derived.Test.YtpokpbhcfdaapaazFClassesM1
import Derived.Test.YtpokpbhcfdaapaazFClassesM3
import Derived.Test.YtpokpbhcfdaapaazFClassesM4
import Derived.Test.YtpokpbhcfdaapaazFClassesM9
import Derived.Test.YtpokpbhcfdaapaazFClassesM15
import Derived.Test.YtpokpbhcfdaapaazFClassesEMarkCode
namespace Go.Proofs.Ytpokpbhcfdaapaa.M
open Go.RowKit Go.Proofs.YtpokpbhcfdaapaaW.PrintWords Go.Proofs.YtpokpbhcfdaapaaW.PrintLast Go.Proofs.YtpokpbhcfdaapaaW.PrintMore
attribute [local go_sem] max2_int min2_int max_two min_two max_three min_three max_four min_four   -- for this text's walks alone
set_option linter.unusedVariables false
set_option linter.unusedSimpArgs false
def spec_MendStitch.f (k : Nat) (a0 : Int) (a1 : Int) (a2 : Int) : Option (Int × Int) := (spec_l06Ok.f a0 a2).bind fun t391 => (if t391 = true then ((spec_l00In.f a1 0 a0).bind fun t392 => (if t392 = true then ((spec_l06Class.f k a0 a2).bind fun t393 => (if (wrap64 (a0 + 1)) = 0 then (none) else (if (Int.tmod (wrap64 ((wrap64 ((wrap64 (a1 - t393)) + a0)) + 1)) (wrap64 (a0 + 1))) = 0 then (some (a2, 0)) else (if 0 ≤ (IntKind.u64.wrap (wrap64 ((Int.tmod (wrap64 ((wrap64 ((wrap64 (a1 - t393)) + a0)) + 1)) (wrap64 (a0 + 1))) - 1))) then (if (Int.tmod (shr .u16 a2 (IntKind.u64.wrap (wrap64 ((Int.tmod (wrap64 ((wrap64 ((wrap64 (a1 - t393)) + a0)) + 1)) (wrap64 (a0 + 1))) - 1)))) 2) = 1 then (some (0, 6)) else (some (Go.bits .or .u16 a2 (shl .u16 1 (IntKind.u64.wrap (wrap64 ((Int.tmod (wrap64 ((wrap64 ((wrap64 (a1 - t393)) + a0)) + 1)) (wrap64 (a0 + 1))) - 1)))), 0))) else (none))))) else (some (0, 2)))) else (some (0, 1)))
theorem spec_MendStitch.mono : ∀ a0 a1 a2 k, LeO (spec_MendStitch.f k a0 a1 a2) (spec_MendStitch.f (k + 1) a0 a1 a2) := by
  intro a0 a1 a2 k
  unfold spec_MendStitch.f
  repeat' first
      | (with_reducible exact spec_l06Class.mono _ _ _)
      | (with_reducible exact LeO.refl _)
      | (with_reducible exact LeO.none _)
      | (with_reducible refine LeO.ite ?_ ?_)
      | (with_reducible refine LeO.bind ?_ (fun _ => ?_))
      | exact spec_l06Class.mono _ _ _
      | exact LeO.none _
      | refine LeO.ite ?_ ?_
      | refine LeO.bind ?_ (fun _ => ?_)
set_option maxHeartbeats 8000000 in
set_option maxRecDepth 100000 in
theorem spec_MendStitch.calls (k : Nat) (a0 : Int) (a1 : Int) (a2 : Int) (r1 : Int) (r2 : Int) (w : World) (h : spec_MendStitch.f k a0 a1 a2 = some (r1, r2)) :
    Calls Try.prog 30 #[.int .i64 a0, .int .i64 a1, .int .u16 a2] w fun e w' => e = .returned (.tuple #[.int .u16 r1, .int .i64 r2]) ∧ Drawn0 w w' := by
  have H : ((spec_l06Ok.f a0 a2).bind fun t391 => (if t391 = true then ((spec_l00In.f a1 0 a0).bind fun t392 => (if t392 = true then ((spec_l06Class.f k a0 a2).bind fun t393 => (if (wrap64 (a0 + 1)) = 0 then (none) else (if (Int.tmod (wrap64 ((wrap64 ((wrap64 (a1 - t393)) + a0)) + 1)) (wrap64 (a0 + 1))) = 0 then (some (a2, 0)) else (if 0 ≤ (IntKind.u64.wrap (wrap64 ((Int.tmod (wrap64 ((wrap64 ((wrap64 (a1 - t393)) + a0)) + 1)) (wrap64 (a0 + 1))) - 1))) then (if (Int.tmod (shr .u16 a2 (IntKind.u64.wrap (wrap64 ((Int.tmod (wrap64 ((wrap64 ((wrap64 (a1 - t393)) + a0)) + 1)) (wrap64 (a0 + 1))) - 1)))) 2) = 1 then (some (0, 6)) else (some (Go.bits .or .u16 a2 (shl .u16 1 (IntKind.u64.wrap (wrap64 ((Int.tmod (wrap64 ((wrap64 ((wrap64 (a1 - t393)) + a0)) + 1)) (wrap64 (a0 + 1))) - 1)))), 0))) else (none))))) else (some (0, 2)))) else (some (0, 1)))) = some (r1, r2) := h
  clear h
  replace H := Option.bind_eq_some_iff.mp H
  obtain ⟨t391, A40, H⟩ := H
  replace H : (if t391 = true then ((spec_l00In.f a1 0 a0).bind fun t392 => (if t392 = true then ((spec_l06Class.f k a0 a2).bind fun t393 => (if (wrap64 (a0 + 1)) = 0 then (none) else (if (Int.tmod (wrap64 ((wrap64 ((wrap64 (a1 - t393)) + a0)) + 1)) (wrap64 (a0 + 1))) = 0 then (some (a2, 0)) else (if 0 ≤ (IntKind.u64.wrap (wrap64 ((Int.tmod (wrap64 ((wrap64 ((wrap64 (a1 - t393)) + a0)) + 1)) (wrap64 (a0 + 1))) - 1))) then (if (Int.tmod (shr .u16 a2 (IntKind.u64.wrap (wrap64 ((Int.tmod (wrap64 ((wrap64 ((wrap64 (a1 - t393)) + a0)) + 1)) (wrap64 (a0 + 1))) - 1)))) 2) = 1 then (some (0, 6)) else (some (Go.bits .or .u16 a2 (shl .u16 1 (IntKind.u64.wrap (wrap64 ((Int.tmod (wrap64 ((wrap64 ((wrap64 (a1 - t393)) + a0)) + 1)) (wrap64 (a0 + 1))) - 1)))), 0))) else (none))))) else (some (0, 2)))) else (some (0, 1))) = some (r1, r2) := H
  have A4 := Aside0.mk A40
  clear A40
  by_cases c5 : t391 = true
  · subst c5
    have H1 : ((spec_l00In.f a1 0 a0).bind fun t392 => (if t392 = true then ((spec_l06Class.f k a0 a2).bind fun t393 => (if (wrap64 (a0 + 1)) = 0 then (none) else (if (Int.tmod (wrap64 ((wrap64 ((wrap64 (a1 - t393)) + a0)) + 1)) (wrap64 (a0 + 1))) = 0 then (some (a2, 0)) else (if 0 ≤ (IntKind.u64.wrap (wrap64 ((Int.tmod (wrap64 ((wrap64 ((wrap64 (a1 - t393)) + a0)) + 1)) (wrap64 (a0 + 1))) - 1))) then (if (Int.tmod (shr .u16 a2 (IntKind.u64.wrap (wrap64 ((Int.tmod (wrap64 ((wrap64 ((wrap64 (a1 - t393)) + a0)) + 1)) (wrap64 (a0 + 1))) - 1)))) 2) = 1 then (some (0, 6)) else (some (Go.bits .or .u16 a2 (shl .u16 1 (IntKind.u64.wrap (wrap64 ((Int.tmod (wrap64 ((wrap64 ((wrap64 (a1 - t393)) + a0)) + 1)) (wrap64 (a0 + 1))) - 1)))), 0))) else (none))))) else (some (0, 2)))) = some (r1, r2) := by rw [if_pos rfl] at H; exact H
    clear H
    have H := H1
    clear H1
    replace H := Option.bind_eq_some_iff.mp H
    obtain ⟨t392, A60, H⟩ := H
    replace H : (if t392 = true then ((spec_l06Class.f k a0 a2).bind fun t393 => (if (wrap64 (a0 + 1)) = 0 then (none) else (if (Int.tmod (wrap64 ((wrap64 ((wrap64 (a1 - t393)) + a0)) + 1)) (wrap64 (a0 + 1))) = 0 then (some (a2, 0)) else (if 0 ≤ (IntKind.u64.wrap (wrap64 ((Int.tmod (wrap64 ((wrap64 ((wrap64 (a1 - t393)) + a0)) + 1)) (wrap64 (a0 + 1))) - 1))) then (if (Int.tmod (shr .u16 a2 (IntKind.u64.wrap (wrap64 ((Int.tmod (wrap64 ((wrap64 ((wrap64 (a1 - t393)) + a0)) + 1)) (wrap64 (a0 + 1))) - 1)))) 2) = 1 then (some (0, 6)) else (some (Go.bits .or .u16 a2 (shl .u16 1 (IntKind.u64.wrap (wrap64 ((Int.tmod (wrap64 ((wrap64 ((wrap64 (a1 - t393)) + a0)) + 1)) (wrap64 (a0 + 1))) - 1)))), 0))) else (none))))) else (some (0, 2))) = some (r1, r2) := H
    have A6 := Aside0.mk A60
    clear A60
    by_cases c7 : t392 = true
    · subst c7
      have H1 : ((spec_l06Class.f k a0 a2).bind fun t393 => (if (wrap64 (a0 + 1)) = 0 then (none) else (if (Int.tmod (wrap64 ((wrap64 ((wrap64 (a1 - t393)) + a0)) + 1)) (wrap64 (a0 + 1))) = 0 then (some (a2, 0)) else (if 0 ≤ (IntKind.u64.wrap (wrap64 ((Int.tmod (wrap64 ((wrap64 ((wrap64 (a1 - t393)) + a0)) + 1)) (wrap64 (a0 + 1))) - 1))) then (if (Int.tmod (shr .u16 a2 (IntKind.u64.wrap (wrap64 ((Int.tmod (wrap64 ((wrap64 ((wrap64 (a1 - t393)) + a0)) + 1)) (wrap64 (a0 + 1))) - 1)))) 2) = 1 then (some (0, 6)) else (some (Go.bits .or .u16 a2 (shl .u16 1 (IntKind.u64.wrap (wrap64 ((Int.tmod (wrap64 ((wrap64 ((wrap64 (a1 - t393)) + a0)) + 1)) (wrap64 (a0 + 1))) - 1)))), 0))) else (none))))) = some (r1, r2) := by rw [if_pos rfl] at H; exact H
      clear H
      have H := H1
      clear H1
      replace H := Option.bind_eq_some_iff.mp H
      obtain ⟨t393, A80, H⟩ := H
      replace H : (if (wrap64 (a0 + 1)) = 0 then (none) else (if (Int.tmod (wrap64 ((wrap64 ((wrap64 (a1 - t393)) + a0)) + 1)) (wrap64 (a0 + 1))) = 0 then (some (a2, 0)) else (if 0 ≤ (IntKind.u64.wrap (wrap64 ((Int.tmod (wrap64 ((wrap64 ((wrap64 (a1 - t393)) + a0)) + 1)) (wrap64 (a0 + 1))) - 1))) then (if (Int.tmod (shr .u16 a2 (IntKind.u64.wrap (wrap64 ((Int.tmod (wrap64 ((wrap64 ((wrap64 (a1 - t393)) + a0)) + 1)) (wrap64 (a0 + 1))) - 1)))) 2) = 1 then (some (0, 6)) else (some (Go.bits .or .u16 a2 (shl .u16 1 (IntKind.u64.wrap (wrap64 ((Int.tmod (wrap64 ((wrap64 ((wrap64 (a1 - t393)) + a0)) + 1)) (wrap64 (a0 + 1))) - 1)))), 0))) else (none)))) = some (r1, r2) := H
      have A8 := Aside0.mk A80
      clear A80
      by_cases c9 : (wrap64 (a0 + 1)) = 0
      · rw [if_pos c9] at H
        exact absurd H (by simp)
      · rw [if_neg c9] at H
        have c9b0 : ((wrap64 (a0 + 1)) == 0) = false := beq_eq_false_iff_ne.mpr c9
        have c9b1 : ((wrap64 (a0 + 1)) != 0) = true := bne_iff_ne.mpr c9
        by_cases c10 : (Int.tmod (wrap64 ((wrap64 ((wrap64 (a1 - t393)) + a0)) + 1)) (wrap64 (a0 + 1))) = 0
        · rw [if_pos c10] at H
          have c10b0 : ((Int.tmod (wrap64 ((wrap64 ((wrap64 (a1 - t393)) + a0)) + 1)) (wrap64 (a0 + 1))) == 0) = true := beq_iff_eq.mpr c10
          have c10b1 : ((Int.tmod (wrap64 ((wrap64 ((wrap64 (a1 - t393)) + a0)) + 1)) (wrap64 (a0 + 1))) != 0) = false := bne_eq_false_iff_eq.mpr c10
          clear c10
          simp only [Option.some.injEq, Prod.mk.injEq] at H
          obtain ⟨rfl, rfl⟩ := H
          go_enter Try.func30, Try.ntmps30
          go_wp2_with (first | ((with_reducible refine gate_callee (f := 64) rfl ?_); refine goesL_ (some 11) rfl rfl Try.func64 (by kernel_rfl) rfl #[.int .i64 a0, .int .u16 a2] rfl (by (try simp only [List.map_toArray, List.map_cons, List.map_nil]); first | done | rfl | (simp only [List.length_drop, List.length_take]; rfl)) ?_; (with_reducible refine (spec_l06Ok.calls a0 a2 true _ A4.out).mono ?_); rintro e w' ⟨rfl, ⟨nd, rfl⟩⟩; refine ⟨_, rfl, ?_⟩) | ((with_reducible refine gate_callee (f := 48) rfl ?_); refine goesL_ (some 15) rfl rfl Try.func48 (by kernel_rfl) rfl #[.int .i64 a1, .int .i64 0, .int .i64 a0] rfl (by (try simp only [List.map_toArray, List.map_cons, List.map_nil]); first | done | rfl | (simp only [List.length_drop, List.length_take]; rfl)) ?_; (with_reducible refine (spec_l00In.calls a1 0 a0 true _ A6.out).mono ?_); rintro e w' ⟨rfl, ⟨nd, rfl⟩⟩; refine ⟨_, rfl, ?_⟩) | ((with_reducible refine gate_callee (f := 65) rfl ?_); refine goesL_ (some 20) rfl rfl Try.func65 (by kernel_rfl) rfl #[.int .i64 a0, .int .u16 a2] rfl (by (try simp only [List.map_toArray, List.map_cons, List.map_nil]); first | done | rfl | (simp only [List.length_drop, List.length_take]; rfl)) ?_; (with_reducible refine (spec_l06Class.calls k a0 a2 t393 _ A8.out).mono ?_); rintro e w' ⟨rfl, ⟨nd, rfl⟩⟩; refine ⟨_, rfl, ?_⟩))
          go_ret2
          exact ⟨by first | rfl | (simp; done) | (simp [*]; done), by repeat (first | exact Drawn0.refl _ | apply Drawn0.step)⟩
        · rw [if_neg c10] at H
          have c10b0 : ((Int.tmod (wrap64 ((wrap64 ((wrap64 (a1 - t393)) + a0)) + 1)) (wrap64 (a0 + 1))) == 0) = false := beq_eq_false_iff_ne.mpr c10
          have c10b1 : ((Int.tmod (wrap64 ((wrap64 ((wrap64 (a1 - t393)) + a0)) + 1)) (wrap64 (a0 + 1))) != 0) = true := bne_iff_ne.mpr c10
          obtain ⟨ji11, hji11⟩ : ∃ j_ : Int, (IntKind.u64.wrap (wrap64 ((Int.tmod (wrap64 ((wrap64 ((wrap64 (a1 - t393)) + a0)) + 1)) (wrap64 (a0 + 1))) - 1))) = j_ := ⟨_, rfl⟩
          replace H : (if 0 ≤ (ji11) then (if (Int.tmod (shr .u16 a2 (ji11)) 2) = 1 then (some (0, 6)) else (some (Go.bits .or .u16 a2 (shl .u16 1 (ji11)), 0))) else (none)) = some (r1, r2) := by first | (rw [hji11] at H; exact H) | (simp only [hji11] at H ⊢; exact H)
          (try rw [hji11] at A4)
          (try rw [hji11] at A6)
          (try rw [hji11] at A8)
          by_cases c12 : 0 ≤ (ji11)
          · rw [if_pos c12] at H
            have c12b0 := eq_true c12
            have c12b1 : decide (0 ≤ (ji11)) = true := decide_eq_true c12
            clear c12
            obtain ⟨ji13, hji13⟩ : ∃ j_ : Int, (shr .u16 a2 (ji11)) = j_ := ⟨_, rfl⟩
            replace H : (if (Int.tmod (ji13) 2) = 1 then (some (0, 6)) else (some (Go.bits .or .u16 a2 (shl .u16 1 (ji11)), 0))) = some (r1, r2) := by first | (rw [hji13] at H; exact H) | (simp only [hji13] at H ⊢; exact H)
            (try rw [hji13] at A4)
            (try rw [hji13] at A6)
            (try rw [hji13] at A8)
            have hji13_ : (a2 / 2 ^ min (ji11).toNat 16) = ji13 := hji13
            have hji13z : (ji11) ≤ 16 → (a2 / 2 ^ (ji11).toNat) = ji13 := shr_small hji13
            by_cases c14 : (Int.tmod (ji13) 2) = 1
            · rw [if_pos c14] at H
              have c14b0 : ((Int.tmod (ji13) 2) == 1) = true := beq_iff_eq.mpr c14
              have c14b1 : ((Int.tmod (ji13) 2) != 1) = false := bne_eq_false_iff_eq.mpr c14
              clear c14
              simp only [Option.some.injEq, Prod.mk.injEq] at H
              obtain ⟨rfl, rfl⟩ := H
              go_enter Try.func30, Try.ntmps30
              go_wp2_with (first | ((with_reducible refine gate_callee (f := 64) rfl ?_); refine goesL_ (some 11) rfl rfl Try.func64 (by kernel_rfl) rfl #[.int .i64 a0, .int .u16 a2] rfl (by (try simp only [List.map_toArray, List.map_cons, List.map_nil]); first | done | rfl | (simp only [List.length_drop, List.length_take]; rfl)) ?_; (with_reducible refine (spec_l06Ok.calls a0 a2 true _ A4.out).mono ?_); rintro e w' ⟨rfl, ⟨nd, rfl⟩⟩; refine ⟨_, rfl, ?_⟩) | ((with_reducible refine gate_callee (f := 48) rfl ?_); refine goesL_ (some 15) rfl rfl Try.func48 (by kernel_rfl) rfl #[.int .i64 a1, .int .i64 0, .int .i64 a0] rfl (by (try simp only [List.map_toArray, List.map_cons, List.map_nil]); first | done | rfl | (simp only [List.length_drop, List.length_take]; rfl)) ?_; (with_reducible refine (spec_l00In.calls a1 0 a0 true _ A6.out).mono ?_); rintro e w' ⟨rfl, ⟨nd, rfl⟩⟩; refine ⟨_, rfl, ?_⟩) | ((with_reducible refine gate_callee (f := 65) rfl ?_); refine goesL_ (some 20) rfl rfl Try.func65 (by kernel_rfl) rfl #[.int .i64 a0, .int .u16 a2] rfl (by (try simp only [List.map_toArray, List.map_cons, List.map_nil]); first | done | rfl | (simp only [List.length_drop, List.length_take]; rfl)) ?_; (with_reducible refine (spec_l06Class.calls k a0 a2 t393 _ A8.out).mono ?_); rintro e w' ⟨rfl, ⟨nd, rfl⟩⟩; refine ⟨_, rfl, ?_⟩))
              go_ret2
              exact ⟨by first | rfl | (simp; done) | (simp only [← hji11, ← hji13] <;> (first | rfl | simp)) | (simp [*]; done), by repeat (first | exact Drawn0.refl _ | apply Drawn0.step)⟩
            · rw [if_neg c14] at H
              have c14b0 : ((Int.tmod (ji13) 2) == 1) = false := beq_eq_false_iff_ne.mpr c14
              have c14b1 : ((Int.tmod (ji13) 2) != 1) = true := bne_iff_ne.mpr c14
              have c15b0 := eq_true (of_decide_eq_true (by first | (with_reducible assumption) | assumption) : 0 ≤ (ji11))
              obtain ⟨ji16, hji16⟩ : ∃ j_ : Int, (shl .u16 1 (ji11)) = j_ := ⟨_, rfl⟩
              replace H : (some (Go.bits .or .u16 a2 (ji16), 0)) = some (r1, r2) := by first | (rw [hji16] at H; exact H) | (simp only [hji16] at H ⊢; exact H)
              (try rw [hji16] at A4)
              (try rw [hji16] at A6)
              (try rw [hji16] at A8)
              have hji16_ : (IntKind.u16.wrap (1 * 2 ^ min (ji11).toNat 16)) = ji16 := hji16
              have hji16z : (ji11) ≤ 16 → (IntKind.u16.wrap (1 * 2 ^ (ji11).toNat)) = ji16 := shl_small hji16
              have hji16u : (IntKind.u16.wrap (2 ^ min (ji11).toNat 16)) = ji16 := by have h_ := hji16_; rw [Int.one_mul] at h_; exact h_
              have hji16v : (ji11) ≤ 16 → (IntKind.u16.wrap (2 ^ (ji11).toNat)) = ji16 := fun hle_ => by have h_ := hji16z hle_; rw [Int.one_mul] at h_; exact h_
              simp only [Option.some.injEq, Prod.mk.injEq] at H
              obtain ⟨rfl, rfl⟩ := H
              go_enter Try.func30, Try.ntmps30
              go_wp2_with (first | ((with_reducible refine gate_callee (f := 64) rfl ?_); refine goesL_ (some 11) rfl rfl Try.func64 (by kernel_rfl) rfl #[.int .i64 a0, .int .u16 a2] rfl (by (try simp only [List.map_toArray, List.map_cons, List.map_nil]); first | done | rfl | (simp only [List.length_drop, List.length_take]; rfl)) ?_; (with_reducible refine (spec_l06Ok.calls a0 a2 true _ A4.out).mono ?_); rintro e w' ⟨rfl, ⟨nd, rfl⟩⟩; refine ⟨_, rfl, ?_⟩) | ((with_reducible refine gate_callee (f := 48) rfl ?_); refine goesL_ (some 15) rfl rfl Try.func48 (by kernel_rfl) rfl #[.int .i64 a1, .int .i64 0, .int .i64 a0] rfl (by (try simp only [List.map_toArray, List.map_cons, List.map_nil]); first | done | rfl | (simp only [List.length_drop, List.length_take]; rfl)) ?_; (with_reducible refine (spec_l00In.calls a1 0 a0 true _ A6.out).mono ?_); rintro e w' ⟨rfl, ⟨nd, rfl⟩⟩; refine ⟨_, rfl, ?_⟩) | ((with_reducible refine gate_callee (f := 65) rfl ?_); refine goesL_ (some 20) rfl rfl Try.func65 (by kernel_rfl) rfl #[.int .i64 a0, .int .u16 a2] rfl (by (try simp only [List.map_toArray, List.map_cons, List.map_nil]); first | done | rfl | (simp only [List.length_drop, List.length_take]; rfl)) ?_; (with_reducible refine (spec_l06Class.calls k a0 a2 t393 _ A8.out).mono ?_); rintro e w' ⟨rfl, ⟨nd, rfl⟩⟩; refine ⟨_, rfl, ?_⟩))
              go_ret2
              exact ⟨by first | rfl | (simp; done) | (simp only [← hji11, ← hji13, ← hji16] <;> (first | rfl | simp)) | (simp [*]; done), by repeat (first | exact Drawn0.refl _ | apply Drawn0.step)⟩
          · rw [if_neg c12] at H
            exact absurd H (by simp)
    · replace c7 := Bool.eq_false_iff.mpr c7
      subst c7
      have H1 : (some (0, 2)) = some (r1, r2) := by rw [if_neg (show ¬ (false = true) by decide)] at H; exact H
      clear H
      have H := H1
      clear H1
      simp only [Option.some.injEq, Prod.mk.injEq] at H
      obtain ⟨rfl, rfl⟩ := H
      go_enter Try.func30, Try.ntmps30
      go_wp2_with (first | ((with_reducible refine gate_callee (f := 64) rfl ?_); refine goesL_ (some 11) rfl rfl Try.func64 (by kernel_rfl) rfl #[.int .i64 a0, .int .u16 a2] rfl (by (try simp only [List.map_toArray, List.map_cons, List.map_nil]); first | done | rfl | (simp only [List.length_drop, List.length_take]; rfl)) ?_; (with_reducible refine (spec_l06Ok.calls a0 a2 true _ A4.out).mono ?_); rintro e w' ⟨rfl, ⟨nd, rfl⟩⟩; refine ⟨_, rfl, ?_⟩) | ((with_reducible refine gate_callee (f := 48) rfl ?_); refine goesL_ (some 15) rfl rfl Try.func48 (by kernel_rfl) rfl #[.int .i64 a1, .int .i64 0, .int .i64 a0] rfl (by (try simp only [List.map_toArray, List.map_cons, List.map_nil]); first | done | rfl | (simp only [List.length_drop, List.length_take]; rfl)) ?_; (with_reducible refine (spec_l00In.calls a1 0 a0 false _ A6.out).mono ?_); rintro e w' ⟨rfl, ⟨nd, rfl⟩⟩; refine ⟨_, rfl, ?_⟩))
      go_ret2
      exact ⟨by first | rfl | (simp; done) | (simp [*]; done), by repeat (first | exact Drawn0.refl _ | apply Drawn0.step)⟩
  · replace c5 := Bool.eq_false_iff.mpr c5
    subst c5
    have H1 : (some (0, 1)) = some (r1, r2) := by rw [if_neg (show ¬ (false = true) by decide)] at H; exact H
    clear H
    have H := H1
    clear H1
    simp only [Option.some.injEq, Prod.mk.injEq] at H
    obtain ⟨rfl, rfl⟩ := H
    go_enter Try.func30, Try.ntmps30
    go_wp2_with (first | ((with_reducible refine gate_callee (f := 64) rfl ?_); refine goesL_ (some 11) rfl rfl Try.func64 (by kernel_rfl) rfl #[.int .i64 a0, .int .u16 a2] rfl (by (try simp only [List.map_toArray, List.map_cons, List.map_nil]); first | done | rfl | (simp only [List.length_drop, List.length_take]; rfl)) ?_; (with_reducible refine (spec_l06Ok.calls a0 a2 false _ A4.out).mono ?_); rintro e w' ⟨rfl, ⟨nd, rfl⟩⟩; refine ⟨_, rfl, ?_⟩))
    go_ret2
    exact ⟨by first | rfl | (simp; done) | (simp [*]; done), by repeat (first | exact Drawn0.refl _ | apply Drawn0.step)⟩
def impl_ClassMarks.f (k : Nat) (a0 : Int) (a1 : Int) : Option (List Int × Int) := (impl_markCode.f a0 ([] : List Int)).bind fun t394 => ((impl_within.f a1 0 a0).bind fun t395 => ((impl_unless.f t395 2).bind fun t396 => ((impl_firstOf.f k (([t394, t396] : List Int))).bind fun t400 => (if t400 = 0 then ((impl_ofClass.f k a0 a1).bind fun t401 => (if (t401.length : Int) > 40 then (some (([] : List Int), 3)) else (some (t401, 0)))) else (some (([] : List Int), t400))))))
theorem impl_ClassMarks.mono : ∀ a0 a1 k, LeO (impl_ClassMarks.f k a0 a1) (impl_ClassMarks.f (k + 1) a0 a1) := by
  intro a0 a1 k
  unfold impl_ClassMarks.f
  repeat' first
      | (with_reducible exact impl_firstOf.mono _ _)
      | (with_reducible exact impl_ofClass.mono _ _ _)
      | (with_reducible exact LeO.refl _)
      | (with_reducible exact LeO.none _)
      | (with_reducible refine LeO.ite ?_ ?_)
      | (with_reducible refine LeO.bind ?_ (fun _ => ?_))
      | exact impl_firstOf.mono _ _
      | exact impl_ofClass.mono _ _ _
      | exact LeO.none _
      | refine LeO.ite ?_ ?_
      | refine LeO.bind ?_ (fun _ => ?_)
set_option maxHeartbeats 8000000 in
set_option maxRecDepth 100000 in
theorem impl_ClassMarks.calls (k : Nat) (a0 : Int) (a1 : Int) (r1 : List Int) (r2 : Int) (w : World) (h : impl_ClassMarks.f k a0 a1 = some (r1, r2)) :
    Calls Try.prog 31 #[.int .i64 a0, .int .i64 a1] w fun e w' => ∃ v0_ : Value, e = .returned (.tuple #[v0_, .int .i64 r2]) ∧ Kd.R (Kd.int .u16) 43 w' w.heap.size (fun _ => True) v0_ r1 ∧ Below w.heap.size w w' := by
  have HB := Aside0.mk (Below.refl w.heap.size w)
  have H : ((impl_markCode.f a0 ([] : List Int)).bind fun t394 => ((impl_within.f a1 0 a0).bind fun t395 => ((impl_unless.f t395 2).bind fun t396 => ((impl_firstOf.f k (([t394, t396] : List Int))).bind fun t400 => (if t400 = 0 then ((impl_ofClass.f k a0 a1).bind fun t401 => (if (t401.length : Int) > 40 then (some (([] : List Int), 3)) else (some (t401, 0)))) else (some (([] : List Int), t400))))))) = some (r1, r2) := h
  clear h
  replace H := Option.bind_eq_some_iff.mp H
  obtain ⟨t394, A30, H⟩ := H
  replace H : ((impl_within.f a1 0 a0).bind fun t395 => ((impl_unless.f t395 2).bind fun t396 => ((impl_firstOf.f k (([t394, t396] : List Int))).bind fun t400 => (if t400 = 0 then ((impl_ofClass.f k a0 a1).bind fun t401 => (if (t401.length : Int) > 40 then (some (([] : List Int), 3)) else (some (t401, 0)))) else (some (([] : List Int), t400)))))) = some (r1, r2) := H
  have A3 := Aside0.mk A30
  clear A30
  replace H := Option.bind_eq_some_iff.mp H
  obtain ⟨t395, A40, H⟩ := H
  replace H : ((impl_unless.f t395 2).bind fun t396 => ((impl_firstOf.f k (([t394, t396] : List Int))).bind fun t400 => (if t400 = 0 then ((impl_ofClass.f k a0 a1).bind fun t401 => (if (t401.length : Int) > 40 then (some (([] : List Int), 3)) else (some (t401, 0)))) else (some (([] : List Int), t400))))) = some (r1, r2) := H
  have A4 := Aside0.mk A40
  clear A40
  replace H := Option.bind_eq_some_iff.mp H
  obtain ⟨t396, A50, H⟩ := H
  replace H : ((impl_firstOf.f k (([t394, t396] : List Int))).bind fun t400 => (if t400 = 0 then ((impl_ofClass.f k a0 a1).bind fun t401 => (if (t401.length : Int) > 40 then (some (([] : List Int), 3)) else (some (t401, 0)))) else (some (([] : List Int), t400)))) = some (r1, r2) := H
  have A5 := Aside0.mk A50
  clear A50
  obtain ⟨y397, hy397⟩ : ∃ y_ : List Int, y_ = (([t394, t396] : List Int)) := ⟨_, rfl⟩
  replace H : ((impl_firstOf.f k y397).bind fun t400 => (if t400 = 0 then ((impl_ofClass.f k a0 a1).bind fun t401 => (if (t401.length : Int) > 40 then (some (([] : List Int), 3)) else (some (t401, 0)))) else (some (([] : List Int), t400)))) = some (r1, r2) := by first | (rw [hy397]; with_reducible exact H) | (have H2_ := (Option.bind_some _ _).symm.trans H; rw [hy397]; with_reducible exact H2_) | (have H2_ := (Option.bind_some _ _).symm.trans H; with_reducible exact H2_) | with_reducible exact H | (rw [hy397]; exact H) | exact H
  have Ny397 := Aside0.mk hy397
  clear hy397
  replace H := Option.bind_eq_some_iff.mp H
  obtain ⟨t400, A60, H⟩ := H
  replace H : (if t400 = 0 then ((impl_ofClass.f k a0 a1).bind fun t401 => (if (t401.length : Int) > 40 then (some (([] : List Int), 3)) else (some (t401, 0)))) else (some (([] : List Int), t400))) = some (r1, r2) := H
  have A6 := Aside0.mk A60
  clear A60
  by_cases c7 : t400 = 0
  · rw [if_pos c7] at H
    have c7b0 : (t400 == 0) = true := beq_iff_eq.mpr c7
    have c7b1 : (t400 != 0) = false := bne_eq_false_iff_eq.mpr c7
    clear c7
    replace H := Option.bind_eq_some_iff.mp H
    obtain ⟨t401, A80, H⟩ := H
    replace H : (if (t401.length : Int) > 40 then (some (([] : List Int), 3)) else (some (t401, 0))) = some (r1, r2) := H
    have A8 := Aside0.mk A80
    clear A80
    by_cases c9 : (t401.length : Int) > 40
    · rw [if_pos c9] at H
      have c9b0 : decide (40 < (t401.length : Int)) = true := decide_eq_true c9
      have c9b1 : decide (40 < t401.length) = true := decide_eq_true (by omega)
      clear c9
      simp only [Option.some.injEq, Prod.mk.injEq] at H
      obtain ⟨rfl, rfl⟩ := H
      go_enter Try.func31, Try.ntmps31
      go_wp2_with (first | ((with_reducible refine gate_callee (f := 56) rfl ?_); refine goesL_ (some 9) rfl rfl Try.func56 (by kernel_rfl) rfl #[.int .i64 a0, .slice none 0 0] rfl (by (try simp only [List.map_toArray, List.map_cons, List.map_nil]); first | done | rfl | (simp only [List.length_drop, List.length_take]; rfl)) ?_; (refine (impl_markCode.calls a0 _ _ ([] : List Int) t394 _ ?side1 ?side2 A3.out).mono ?_); (case side1 => exact Kd.C_nil _ _); (case side2 => exact Nat.le_refl _); rintro e w10 ⟨rfl, hb⟩; refine ⟨_, rfl, ?_⟩; have n0_ := Aside0.mk (below_step (by repeat (first | (with_reducible first | exact HB.out | apply below_alloc | apply pw_below_drewN | apply below_drew1) | exact HB.out)) hb); clear HB; have HB := n0_; clear n0_; (try clear hb); (try clear hb2); (try clear hk); (try clear hi)) | ((with_reducible refine gate_callee (f := 72) rfl ?_); refine goesL_ (some 12) rfl rfl Try.func72 (by kernel_rfl) rfl #[.int .i64 a1, .int .i64 0, .int .i64 a0] rfl (by (try simp only [List.map_toArray, List.map_cons, List.map_nil]); first | done | rfl | (simp only [List.length_drop, List.length_take]; rfl)) ?_; (with_reducible refine (impl_within.calls a1 0 a0 t395 _ A4.out).mono ?_); rintro e w' ⟨rfl, ⟨nd, rfl⟩⟩; refine ⟨_, rfl, ?_⟩) | ((with_reducible refine gate_callee (f := 71) rfl ?_); refine goesL_ (some 13) rfl rfl Try.func71 (by kernel_rfl) rfl #[.bool t395, .int .i64 2] rfl (by (try simp only [List.map_toArray, List.map_cons, List.map_nil]); first | done | rfl | (simp only [List.length_drop, List.length_take]; rfl)) ?_; (with_reducible refine (impl_unless.calls t395 2 t396 _ A5.out).mono ?_); rintro e w' ⟨rfl, ⟨nd, rfl⟩⟩; refine ⟨_, rfl, ?_⟩) | ((with_reducible refine gate_dst (N := 14) rfl ?_); refine Kd.R_lit (Kd.int .i64) _ 2 ?hg (N := 14) ?hd (xs := ([t394, t396] : List Int)) (inner := [.int .i64 t394, .int .i64 t396]) (ok := fun _ => True) (okp := fun _ => True) ?hr ?hp (fun _ hk => hk) trivial (Below.refl _ _) (Nat.le_refl _) (by simp) ?_; (case hd => rfl); (case hg => rfl); (case hr => first | (go_simp; done) | (go_simp; rfl)); (case hp => exact (Reps.one (show Kd.M (Kd.int .i64) _ _ _ t394 [.int .i64 t394] from rfl) (Reps.one (show Kd.M (Kd.int .i64) _ _ _ t396 [.int .i64 t396] from rfl) (Reps.none _ _)))); intro v398 w11 ho12 hb hg_ hnew_; clear hg_ hnew_; (first | rw [← Ny397.out] at ho12 | (simp only [Int.reduceToNat] at ho12; rw [← Ny397.out] at ho12)); have n0_ := Aside0.mk (Kd.R_lower ho12 (below_size (by repeat (first | (with_reducible first | exact HB.out | apply below_alloc | apply pw_below_drewN | apply below_drew1) | exact HB.out)))); have n1_ := Aside0.mk (below_step (by repeat (first | (with_reducible first | exact HB.out | apply below_alloc | apply pw_below_drewN | apply below_drew1) | exact HB.out)) hb); clear HB; have HO399 := n0_; have HB := n1_; clear n0_ n1_; clear hb ho12; obtain ⟨Ao13, co13, eo13⟩ := Kd.R_slice HO399.out; subst eo13) | ((with_reducible refine gate_callee (f := 55) rfl ?_); refine goesL_ (some 15) rfl rfl Try.func55 (by kernel_rfl) rfl #[.slice Ao13 y397.length co13] rfl (by (try simp only [List.map_toArray, List.map_cons, List.map_nil]); first | done | rfl | (simp only [List.length_drop, List.length_take]; rfl)) ?_; (with_reducible refine (impl_firstOf.calls k _ _ y397 t400 _ ?side1 ?side2 A6.out).mono ?_); (case side1 => repeat (first | exact (Kd.R_reads' HO399.out).2.2 | (with_reducible refine Kd.C_alloc ?_ _) | (with_reducible refine Kd.C_drewN ?_ _) | (with_reducible refine Kd.C_drew ?_))); (case side2 => exact (Kd.R_reads' HO399.out).2.1); rintro e w' ⟨rfl, ⟨nd, rfl⟩⟩; refine ⟨_, rfl, ?_⟩) | ((with_reducible refine gate_callee (f := 67) rfl ?_); refine goesL_ (some 21) rfl rfl Try.func67 (by kernel_rfl) rfl #[.int .i64 a0, .int .i64 a1] rfl (by (try simp only [List.map_toArray, List.map_cons, List.map_nil]); first | done | rfl | (simp only [List.length_drop, List.length_take]; rfl)) ?_; (with_reducible refine (impl_ofClass.calls k a0 a1 t401 _ A8.out).mono ?_); rintro e w14 ⟨v402, rfl, ho0, hb⟩; refine ⟨_, rfl, ?_⟩; have n0_ := Aside0.mk (Kd.R_below (by (with_reducible repeat (first | apply Kd.R_alloc | apply Kd.R_drewN | apply Kd.R_drew)); exact HO399.out) hb); have n1_ := Aside0.mk (Kd.R_lower ho0 (below_size (by repeat (first | (with_reducible first | exact HB.out | apply below_alloc | apply pw_below_drewN | apply below_drew1) | exact HB.out)))); have n2_ := Aside0.mk (below_step (by repeat (first | (with_reducible first | exact HB.out | apply below_alloc | apply pw_below_drewN | apply below_drew1) | exact HB.out)) hb); clear HO399; clear HB; have HO399 := n0_; have HO403 := n1_; have HB := n2_; clear n0_ n1_ n2_; (try clear hb); (try clear hb2); (try clear hk); (try clear hi); (try clear ho0); obtain ⟨Ao15, co15, eo15⟩ := Kd.R_slice HO403.out; subst eo15))
      go_ret2
      exact ⟨_, by first | rfl | (simp [errW_none, errW_some] <;> rfl) | (simp [*, errW_none, errW_some] <;> rfl), by first | exact Kd.R_nil _ _ _ _ _ | exact Kd.N_nil _ _ _ _ _ | exact Kd.V_nil _ _ _ _ _ | exact Kd.Q_nil _ _ _ _ _ | exact Kd.S_nil _ _ _ _ _, by repeat (first | (with_reducible first | exact HB.out | apply below_alloc | apply pw_below_drewN | apply below_drew1) | exact HB.out)⟩
    · rw [if_neg c9] at H
      have c9b0 : decide (40 < (t401.length : Int)) = false := decide_eq_false c9
      have c9b1 : decide (40 < t401.length) = false := decide_eq_false (by omega)
      clear c9
      simp only [Option.some.injEq, Prod.mk.injEq] at H
      obtain ⟨rfl, rfl⟩ := H
      go_enter Try.func31, Try.ntmps31
      go_wp2_with (first | ((with_reducible refine gate_callee (f := 56) rfl ?_); refine goesL_ (some 9) rfl rfl Try.func56 (by kernel_rfl) rfl #[.int .i64 a0, .slice none 0 0] rfl (by (try simp only [List.map_toArray, List.map_cons, List.map_nil]); first | done | rfl | (simp only [List.length_drop, List.length_take]; rfl)) ?_; (refine (impl_markCode.calls a0 _ _ ([] : List Int) t394 _ ?side1 ?side2 A3.out).mono ?_); (case side1 => exact Kd.C_nil _ _); (case side2 => exact Nat.le_refl _); rintro e w16 ⟨rfl, hb⟩; refine ⟨_, rfl, ?_⟩; have n0_ := Aside0.mk (below_step (by repeat (first | (with_reducible first | exact HB.out | apply below_alloc | apply pw_below_drewN | apply below_drew1) | exact HB.out)) hb); clear HB; have HB := n0_; clear n0_; (try clear hb); (try clear hb2); (try clear hk); (try clear hi)) | ((with_reducible refine gate_callee (f := 72) rfl ?_); refine goesL_ (some 12) rfl rfl Try.func72 (by kernel_rfl) rfl #[.int .i64 a1, .int .i64 0, .int .i64 a0] rfl (by (try simp only [List.map_toArray, List.map_cons, List.map_nil]); first | done | rfl | (simp only [List.length_drop, List.length_take]; rfl)) ?_; (with_reducible refine (impl_within.calls a1 0 a0 t395 _ A4.out).mono ?_); rintro e w' ⟨rfl, ⟨nd, rfl⟩⟩; refine ⟨_, rfl, ?_⟩) | ((with_reducible refine gate_callee (f := 71) rfl ?_); refine goesL_ (some 13) rfl rfl Try.func71 (by kernel_rfl) rfl #[.bool t395, .int .i64 2] rfl (by (try simp only [List.map_toArray, List.map_cons, List.map_nil]); first | done | rfl | (simp only [List.length_drop, List.length_take]; rfl)) ?_; (with_reducible refine (impl_unless.calls t395 2 t396 _ A5.out).mono ?_); rintro e w' ⟨rfl, ⟨nd, rfl⟩⟩; refine ⟨_, rfl, ?_⟩) | ((with_reducible refine gate_dst (N := 14) rfl ?_); refine Kd.R_lit (Kd.int .i64) _ 2 ?hg (N := 14) ?hd (xs := ([t394, t396] : List Int)) (inner := [.int .i64 t394, .int .i64 t396]) (ok := fun _ => True) (okp := fun _ => True) ?hr ?hp (fun _ hk => hk) trivial (Below.refl _ _) (Nat.le_refl _) (by simp) ?_; (case hd => rfl); (case hg => rfl); (case hr => first | (go_simp; done) | (go_simp; rfl)); (case hp => exact (Reps.one (show Kd.M (Kd.int .i64) _ _ _ t394 [.int .i64 t394] from rfl) (Reps.one (show Kd.M (Kd.int .i64) _ _ _ t396 [.int .i64 t396] from rfl) (Reps.none _ _)))); intro v398 w17 ho18 hb hg_ hnew_; clear hg_ hnew_; (first | rw [← Ny397.out] at ho18 | (simp only [Int.reduceToNat] at ho18; rw [← Ny397.out] at ho18)); have n0_ := Aside0.mk (Kd.R_lower ho18 (below_size (by repeat (first | (with_reducible first | exact HB.out | apply below_alloc | apply pw_below_drewN | apply below_drew1) | exact HB.out)))); have n1_ := Aside0.mk (below_step (by repeat (first | (with_reducible first | exact HB.out | apply below_alloc | apply pw_below_drewN | apply below_drew1) | exact HB.out)) hb); clear HB; have HO399 := n0_; have HB := n1_; clear n0_ n1_; clear hb ho18; obtain ⟨Ao19, co19, eo19⟩ := Kd.R_slice HO399.out; subst eo19) | ((with_reducible refine gate_callee (f := 55) rfl ?_); refine goesL_ (some 15) rfl rfl Try.func55 (by kernel_rfl) rfl #[.slice Ao19 y397.length co19] rfl (by (try simp only [List.map_toArray, List.map_cons, List.map_nil]); first | done | rfl | (simp only [List.length_drop, List.length_take]; rfl)) ?_; (with_reducible refine (impl_firstOf.calls k _ _ y397 t400 _ ?side1 ?side2 A6.out).mono ?_); (case side1 => repeat (first | exact (Kd.R_reads' HO399.out).2.2 | (with_reducible refine Kd.C_alloc ?_ _) | (with_reducible refine Kd.C_drewN ?_ _) | (with_reducible refine Kd.C_drew ?_))); (case side2 => exact (Kd.R_reads' HO399.out).2.1); rintro e w' ⟨rfl, ⟨nd, rfl⟩⟩; refine ⟨_, rfl, ?_⟩) | ((with_reducible refine gate_callee (f := 67) rfl ?_); refine goesL_ (some 21) rfl rfl Try.func67 (by kernel_rfl) rfl #[.int .i64 a0, .int .i64 a1] rfl (by (try simp only [List.map_toArray, List.map_cons, List.map_nil]); first | done | rfl | (simp only [List.length_drop, List.length_take]; rfl)) ?_; (with_reducible refine (impl_ofClass.calls k a0 a1 t401 _ A8.out).mono ?_); rintro e w20 ⟨v402, rfl, ho0, hb⟩; refine ⟨_, rfl, ?_⟩; have n0_ := Aside0.mk (Kd.R_below (by (with_reducible repeat (first | apply Kd.R_alloc | apply Kd.R_drewN | apply Kd.R_drew)); exact HO399.out) hb); have n1_ := Aside0.mk (Kd.R_lower ho0 (below_size (by repeat (first | (with_reducible first | exact HB.out | apply below_alloc | apply pw_below_drewN | apply below_drew1) | exact HB.out)))); have n2_ := Aside0.mk (below_step (by repeat (first | (with_reducible first | exact HB.out | apply below_alloc | apply pw_below_drewN | apply below_drew1) | exact HB.out)) hb); clear HO399; clear HB; have HO399 := n0_; have HO403 := n1_; have HB := n2_; clear n0_ n1_ n2_; (try clear hb); (try clear hb2); (try clear hk); (try clear hi); (try clear ho0); obtain ⟨Ao21, co21, eo21⟩ := Kd.R_slice HO403.out; subst eo21))
      go_ret2
      exact ⟨_, by first | rfl | (simp [errW_none, errW_some] <;> rfl) | (simp [*, errW_none, errW_some] <;> rfl), by (with_reducible repeat (first | apply Kd.R_alloc | apply Kd.R_drewN | apply Kd.R_drew)); exact HO403.out, by repeat (first | (with_reducible first | exact HB.out | apply below_alloc | apply pw_below_drewN | apply below_drew1) | exact HB.out)⟩
  · rw [if_neg c7] at H
    have c7b0 : (t400 == 0) = false := beq_eq_false_iff_ne.mpr c7
    have c7b1 : (t400 != 0) = true := bne_iff_ne.mpr c7
    simp only [Option.some.injEq, Prod.mk.injEq] at H
    obtain ⟨rfl, rfl⟩ := H
    go_enter Try.func31, Try.ntmps31
    go_wp2_with (first | ((with_reducible refine gate_callee (f := 56) rfl ?_); refine goesL_ (some 9) rfl rfl Try.func56 (by kernel_rfl) rfl #[.int .i64 a0, .slice none 0 0] rfl (by (try simp only [List.map_toArray, List.map_cons, List.map_nil]); first | done | rfl | (simp only [List.length_drop, List.length_take]; rfl)) ?_; (refine (impl_markCode.calls a0 _ _ ([] : List Int) t394 _ ?side1 ?side2 A3.out).mono ?_); (case side1 => exact Kd.C_nil _ _); (case side2 => exact Nat.le_refl _); rintro e w22 ⟨rfl, hb⟩; refine ⟨_, rfl, ?_⟩; have n0_ := Aside0.mk (below_step (by repeat (first | (with_reducible first | exact HB.out | apply below_alloc | apply pw_below_drewN | apply below_drew1) | exact HB.out)) hb); clear HB; have HB := n0_; clear n0_; (try clear hb); (try clear hb2); (try clear hk); (try clear hi)) | ((with_reducible refine gate_callee (f := 72) rfl ?_); refine goesL_ (some 12) rfl rfl Try.func72 (by kernel_rfl) rfl #[.int .i64 a1, .int .i64 0, .int .i64 a0] rfl (by (try simp only [List.map_toArray, List.map_cons, List.map_nil]); first | done | rfl | (simp only [List.length_drop, List.length_take]; rfl)) ?_; (with_reducible refine (impl_within.calls a1 0 a0 t395 _ A4.out).mono ?_); rintro e w' ⟨rfl, ⟨nd, rfl⟩⟩; refine ⟨_, rfl, ?_⟩) | ((with_reducible refine gate_callee (f := 71) rfl ?_); refine goesL_ (some 13) rfl rfl Try.func71 (by kernel_rfl) rfl #[.bool t395, .int .i64 2] rfl (by (try simp only [List.map_toArray, List.map_cons, List.map_nil]); first | done | rfl | (simp only [List.length_drop, List.length_take]; rfl)) ?_; (with_reducible refine (impl_unless.calls t395 2 t396 _ A5.out).mono ?_); rintro e w' ⟨rfl, ⟨nd, rfl⟩⟩; refine ⟨_, rfl, ?_⟩) | ((with_reducible refine gate_dst (N := 14) rfl ?_); refine Kd.R_lit (Kd.int .i64) _ 2 ?hg (N := 14) ?hd (xs := ([t394, t396] : List Int)) (inner := [.int .i64 t394, .int .i64 t396]) (ok := fun _ => True) (okp := fun _ => True) ?hr ?hp (fun _ hk => hk) trivial (Below.refl _ _) (Nat.le_refl _) (by simp) ?_; (case hd => rfl); (case hg => rfl); (case hr => first | (go_simp; done) | (go_simp; rfl)); (case hp => exact (Reps.one (show Kd.M (Kd.int .i64) _ _ _ t394 [.int .i64 t394] from rfl) (Reps.one (show Kd.M (Kd.int .i64) _ _ _ t396 [.int .i64 t396] from rfl) (Reps.none _ _)))); intro v398 w23 ho24 hb hg_ hnew_; clear hg_ hnew_; (first | rw [← Ny397.out] at ho24 | (simp only [Int.reduceToNat] at ho24; rw [← Ny397.out] at ho24)); have n0_ := Aside0.mk (Kd.R_lower ho24 (below_size (by repeat (first | (with_reducible first | exact HB.out | apply below_alloc | apply pw_below_drewN | apply below_drew1) | exact HB.out)))); have n1_ := Aside0.mk (below_step (by repeat (first | (with_reducible first | exact HB.out | apply below_alloc | apply pw_below_drewN | apply below_drew1) | exact HB.out)) hb); clear HB; have HO399 := n0_; have HB := n1_; clear n0_ n1_; clear hb ho24; obtain ⟨Ao25, co25, eo25⟩ := Kd.R_slice HO399.out; subst eo25) | ((with_reducible refine gate_callee (f := 55) rfl ?_); refine goesL_ (some 15) rfl rfl Try.func55 (by kernel_rfl) rfl #[.slice Ao25 y397.length co25] rfl (by (try simp only [List.map_toArray, List.map_cons, List.map_nil]); first | done | rfl | (simp only [List.length_drop, List.length_take]; rfl)) ?_; (with_reducible refine (impl_firstOf.calls k _ _ y397 t400 _ ?side1 ?side2 A6.out).mono ?_); (case side1 => repeat (first | exact (Kd.R_reads' HO399.out).2.2 | (with_reducible refine Kd.C_alloc ?_ _) | (with_reducible refine Kd.C_drewN ?_ _) | (with_reducible refine Kd.C_drew ?_))); (case side2 => exact (Kd.R_reads' HO399.out).2.1); rintro e w' ⟨rfl, ⟨nd, rfl⟩⟩; refine ⟨_, rfl, ?_⟩))
    go_ret2
    exact ⟨_, by first | rfl | (simp [errW_none, errW_some] <;> rfl) | (simp [*, errW_none, errW_some] <;> rfl), by first | exact Kd.R_nil _ _ _ _ _ | exact Kd.N_nil _ _ _ _ _ | exact Kd.V_nil _ _ _ _ _ | exact Kd.Q_nil _ _ _ _ _ | exact Kd.S_nil _ _ _ _ _, by repeat (first | (with_reducible first | exact HB.out | apply below_alloc | apply pw_below_drewN | apply below_drew1) | exact HB.out)⟩
end Go.Proofs.Ytpokpbhcfdaapaa.M
