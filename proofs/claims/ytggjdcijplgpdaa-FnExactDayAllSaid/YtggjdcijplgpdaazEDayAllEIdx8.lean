import Derived.Test.YtggjdcijplgpdaaProg
import Derived.Test.YtggjdcijplgpdaazEDayAllWords1
import Derived.Test.YtggjdcijplgpdaazEDayAllWords2
import Derived.Below
import Derived.Deep.Draws
import Derived.Deep.AppendLies
import Derived.Maps.AppendAt
import Derived.OwnWalk
import Derived.Laws.BytesArg
import Derived.Laws.MakeOwn
import Derived.Laws.OwnMore
import Derived.Deep.OwnRows
import Derived.Tactics
import Derived.Lib.ConvBytes
import Derived.Laws.Slices
import Derived.WalkKit
import Derived.KernelRfl
import Derived.RowKit3
import Derived.Deep.LoopGhost
import Derived.Deep.QuietTactic
import Derived.BigQuiet
import Derived.WideLaws
import Derived.Deep.DeepCutAuto
import Derived.Deep.CutBlock
import Derived.Deep.RegionHeld3
import Derived.Laws.Rows
import Derived.Lib.AppendStr
import Derived.ArgAppend
import Derived.Laws.IdiomCopy
import Derived.OrdersHeld
import Derived.Laws.BitsLemmas
import Derived.RowKit
import Derived.Shelf.Abstract
section
namespace Go.Proofs.Ytggjdcijplgpdaa.H
open Go.RowKit Go.Proofs.YtggjdcijplgpdaaW.PrintWords Go.Proofs.YtggjdcijplgpdaaW.PrintLast Go.Proofs.YtggjdcijplgpdaaW.PrintMore
attribute [local go_sem] max2_int min2_int max_two min_two max_three min_three max_four min_four   -- for this text's walks alone
set_option linter.unusedVariables false
set_option linter.unusedSimpArgs false
def errW : Option Int → Value
  | none => .nilIface
  | some c => .iface 0 (.int .i64 c)
theorem errW_none : errW none = .nilIface := rfl
theorem errW_some (c : Int) : errW (some c) = .iface 0 (.int .i64 c) := rfl
theorem info2 : (Try.prog.info? 2).map (fun i => (i.zero, i.size, i.bytes)) = some (some (.int .i64 0), 1, 8) := by kernel_rfl
theorem info49 : (Try.prog.info? 49).map (fun i => (i.zero, i.size, i.bytes)) = some (some (.slice none 0 0), 1, 24) := by kernel_rfl
theorem info55 : (Try.prog.info? 55).map (fun i => (i.zero, i.size, i.bytes)) = some (some (.agg #[(.int .i16 0), (.int .i16 0), (.int .i16 0), (.int .i16 0), (.int .i16 0), (.int .i16 0), (.int .i16 0), (.int .i16 0), (.int .i16 0), (.int .i16 0), (.int .i16 0), (.int .i16 0), (.int .i16 0), (.int .i16 0), (.int .i16 0), (.int .i16 0), (.int .i16 0), (.int .i16 0), (.int .i16 0), (.int .i16 0), (.int .i16 0), (.int .i16 0), (.int .i16 0), (.int .i16 0), (.int .i32 0)]), 25, 52) := by kernel_rfl
structure S53 where
  f0 : Int
  f1 : Int
  f2 : Int
  f3 : Int
  f4 : Int
  f5 : Int
  f6 : Int
  f7 : Int
def z53 : S53 := ⟨(0 : Int), (0 : Int), (0 : Int), (0 : Int), (0 : Int), (0 : Int), (0 : Int), (0 : Int)⟩
def k53 : Kd S53 := Kd.iso (Kd.pair (Kd.int .i16) (Kd.pair (Kd.int .i16) (Kd.pair (Kd.int .i16) (Kd.pair (Kd.int .i16) (Kd.pair (Kd.int .i16) (Kd.pair (Kd.int .i16) (Kd.pair (Kd.int .i16) (Kd.int .i16)))))))) (fun x : S53 => (x.f0, x.f1, x.f2, x.f3, x.f4, x.f5, x.f6, x.f7))
theorem k53_open {w : World} {x : S53} {cs : List Value} (h : k53.K w x cs) : cs = [.int .i16 x.f0, .int .i16 x.f1, .int .i16 x.f2, .int .i16 x.f3, .int .i16 x.f4, .int .i16 x.f5, .int .i16 x.f6, .int .i16 x.f7] := by
  obtain ⟨_, _, rfl, rfl, ⟨_, _, rfl, rfl, ⟨_, _, rfl, rfl, ⟨_, _, rfl, rfl, ⟨_, _, rfl, rfl, ⟨_, _, rfl, rfl, ⟨_, _, rfl, rfl, rfl⟩⟩⟩⟩⟩⟩⟩ := h
  exact rfl
theorem k53_openM {w : World} {base : Nat} {ok : Nat → Prop} {x : S53} {cs : List Value} (h : k53.M w base ok x cs) : cs = [.int .i16 x.f0, .int .i16 x.f1, .int .i16 x.f2, .int .i16 x.f3, .int .i16 x.f4, .int .i16 x.f5, .int .i16 x.f6, .int .i16 x.f7] := by
  obtain ⟨_, _, rfl, rfl, ⟨_, _, rfl, rfl, ⟨_, _, rfl, rfl, ⟨_, _, rfl, rfl, ⟨_, _, rfl, rfl, ⟨_, _, rfl, rfl, ⟨_, _, rfl, rfl, rfl⟩⟩⟩⟩⟩⟩⟩ := h
  exact rfl
theorem k53_mk (w : World) (x : S53)  : k53.K w x [.int .i16 x.f0, .int .i16 x.f1, .int .i16 x.f2, .int .i16 x.f3, .int .i16 x.f4, .int .i16 x.f5, .int .i16 x.f6, .int .i16 x.f7] := ⟨[.int .i16 x.f0], [.int .i16 x.f1, .int .i16 x.f2, .int .i16 x.f3, .int .i16 x.f4, .int .i16 x.f5, .int .i16 x.f6, .int .i16 x.f7], rfl, rfl, ⟨[.int .i16 x.f1], [.int .i16 x.f2, .int .i16 x.f3, .int .i16 x.f4, .int .i16 x.f5, .int .i16 x.f6, .int .i16 x.f7], rfl, rfl, ⟨[.int .i16 x.f2], [.int .i16 x.f3, .int .i16 x.f4, .int .i16 x.f5, .int .i16 x.f6, .int .i16 x.f7], rfl, rfl, ⟨[.int .i16 x.f3], [.int .i16 x.f4, .int .i16 x.f5, .int .i16 x.f6, .int .i16 x.f7], rfl, rfl, ⟨[.int .i16 x.f4], [.int .i16 x.f5, .int .i16 x.f6, .int .i16 x.f7], rfl, rfl, ⟨[.int .i16 x.f5], [.int .i16 x.f6, .int .i16 x.f7], rfl, rfl, ⟨[.int .i16 x.f6], [.int .i16 x.f7], rfl, rfl, rfl⟩⟩⟩⟩⟩⟩⟩
theorem k53_mkM (w : World) (base : Nat) (ok : Nat → Prop) (x : S53)  : k53.M w base ok x [.int .i16 x.f0, .int .i16 x.f1, .int .i16 x.f2, .int .i16 x.f3, .int .i16 x.f4, .int .i16 x.f5, .int .i16 x.f6, .int .i16 x.f7] := ⟨[.int .i16 x.f0], [.int .i16 x.f1, .int .i16 x.f2, .int .i16 x.f3, .int .i16 x.f4, .int .i16 x.f5, .int .i16 x.f6, .int .i16 x.f7], rfl, rfl, ⟨[.int .i16 x.f1], [.int .i16 x.f2, .int .i16 x.f3, .int .i16 x.f4, .int .i16 x.f5, .int .i16 x.f6, .int .i16 x.f7], rfl, rfl, ⟨[.int .i16 x.f2], [.int .i16 x.f3, .int .i16 x.f4, .int .i16 x.f5, .int .i16 x.f6, .int .i16 x.f7], rfl, rfl, ⟨[.int .i16 x.f3], [.int .i16 x.f4, .int .i16 x.f5, .int .i16 x.f6, .int .i16 x.f7], rfl, rfl, ⟨[.int .i16 x.f4], [.int .i16 x.f5, .int .i16 x.f6, .int .i16 x.f7], rfl, rfl, ⟨[.int .i16 x.f5], [.int .i16 x.f6, .int .i16 x.f7], rfl, rfl, ⟨[.int .i16 x.f6], [.int .i16 x.f7], rfl, rfl, rfl⟩⟩⟩⟩⟩⟩⟩
structure S145 where
  f0 : S53
  f1 : S53
  f2 : S53
  f3 : Int
def z145 : S145 := ⟨z53, z53, z53, (0 : Int)⟩
def k145 : Kd S145 := Kd.iso (Kd.pair k53 (Kd.pair k53 (Kd.pair k53 (Kd.int .i32)))) (fun x : S145 => (x.f0, x.f1, x.f2, x.f3))
theorem k145_open {w : World} {x : S145} {cs : List Value} (h : k145.K w x cs) : cs = [.int .i16 x.f0.f0, .int .i16 x.f0.f1, .int .i16 x.f0.f2, .int .i16 x.f0.f3, .int .i16 x.f0.f4, .int .i16 x.f0.f5, .int .i16 x.f0.f6, .int .i16 x.f0.f7, .int .i16 x.f1.f0, .int .i16 x.f1.f1, .int .i16 x.f1.f2, .int .i16 x.f1.f3, .int .i16 x.f1.f4, .int .i16 x.f1.f5, .int .i16 x.f1.f6, .int .i16 x.f1.f7, .int .i16 x.f2.f0, .int .i16 x.f2.f1, .int .i16 x.f2.f2, .int .i16 x.f2.f3, .int .i16 x.f2.f4, .int .i16 x.f2.f5, .int .i16 x.f2.f6, .int .i16 x.f2.f7, .int .i32 x.f3] := by
  obtain ⟨_, _, rfl, s0, ⟨_, _, rfl, s8, ⟨_, _, rfl, s16, rfl⟩⟩⟩ := h
  obtain rfl := k53_open s0
  obtain rfl := k53_open s8
  obtain rfl := k53_open s16
  exact rfl
theorem k145_mk (w : World) (x : S145)  : k145.K w x [.int .i16 x.f0.f0, .int .i16 x.f0.f1, .int .i16 x.f0.f2, .int .i16 x.f0.f3, .int .i16 x.f0.f4, .int .i16 x.f0.f5, .int .i16 x.f0.f6, .int .i16 x.f0.f7, .int .i16 x.f1.f0, .int .i16 x.f1.f1, .int .i16 x.f1.f2, .int .i16 x.f1.f3, .int .i16 x.f1.f4, .int .i16 x.f1.f5, .int .i16 x.f1.f6, .int .i16 x.f1.f7, .int .i16 x.f2.f0, .int .i16 x.f2.f1, .int .i16 x.f2.f2, .int .i16 x.f2.f3, .int .i16 x.f2.f4, .int .i16 x.f2.f5, .int .i16 x.f2.f6, .int .i16 x.f2.f7, .int .i32 x.f3] := ⟨[.int .i16 x.f0.f0, .int .i16 x.f0.f1, .int .i16 x.f0.f2, .int .i16 x.f0.f3, .int .i16 x.f0.f4, .int .i16 x.f0.f5, .int .i16 x.f0.f6, .int .i16 x.f0.f7], [.int .i16 x.f1.f0, .int .i16 x.f1.f1, .int .i16 x.f1.f2, .int .i16 x.f1.f3, .int .i16 x.f1.f4, .int .i16 x.f1.f5, .int .i16 x.f1.f6, .int .i16 x.f1.f7, .int .i16 x.f2.f0, .int .i16 x.f2.f1, .int .i16 x.f2.f2, .int .i16 x.f2.f3, .int .i16 x.f2.f4, .int .i16 x.f2.f5, .int .i16 x.f2.f6, .int .i16 x.f2.f7, .int .i32 x.f3], rfl, (k53_mk w x.f0 ), ⟨[.int .i16 x.f1.f0, .int .i16 x.f1.f1, .int .i16 x.f1.f2, .int .i16 x.f1.f3, .int .i16 x.f1.f4, .int .i16 x.f1.f5, .int .i16 x.f1.f6, .int .i16 x.f1.f7], [.int .i16 x.f2.f0, .int .i16 x.f2.f1, .int .i16 x.f2.f2, .int .i16 x.f2.f3, .int .i16 x.f2.f4, .int .i16 x.f2.f5, .int .i16 x.f2.f6, .int .i16 x.f2.f7, .int .i32 x.f3], rfl, (k53_mk w x.f1 ), ⟨[.int .i16 x.f2.f0, .int .i16 x.f2.f1, .int .i16 x.f2.f2, .int .i16 x.f2.f3, .int .i16 x.f2.f4, .int .i16 x.f2.f5, .int .i16 x.f2.f6, .int .i16 x.f2.f7], [.int .i32 x.f3], rfl, (k53_mk w x.f2 ), rfl⟩⟩⟩
def rd_L5 (xs : List (List Int)) (i : Int) : (List Int) := xs.getD i.toNat ([] : List Int)
theorem at_L5 {w : World} {A : Option Addr} {n : Nat} {xs : List (List Int)} (h : Kd.C (Kd.slice 2 (Kd.int .i64)) w A n xs) (i : Int) (h0 : 0 ≤ i) (h1 : i < n) : ∃ ad A0 c0, A = some ad ∧ w.cell? (ad.add i.toNat) = some (.slice A0 (rd_L5 xs i).length c0) ∧ (rd_L5 xs i).length ≤ c0 ∧ (Kd.int .i64).C w A0 (rd_L5 xs i).length (rd_L5 xs i) := by
  obtain ⟨ad, c, e, _, hK, hc0⟩ := Kd.C_get h ([] : List Int) i h0 h1
  have hc : ∀ j u, c[j]? = some u → w.cell? (ad.add (i.toNat * 1 + j)) = some u := hc0
  obtain ⟨A0, c0, rfl, l0, g0⟩ := hK
  exact ⟨ad, A0, c0, e, by have hq := hc 0 _ rfl; rwa [Nat.mul_one, Nat.add_zero] at hq, l0, g0⟩
structure S55 where
  f0 : S53
  f1 : S53
  f2 : S53
  f3 : Int
def z55 : S55 := ⟨z53, z53, z53, (0 : Int)⟩
def k55 : Kd S55 := Kd.iso (Kd.pair k53 (Kd.pair k53 (Kd.pair k53 (Kd.int .i32)))) (fun x : S55 => (x.f0, x.f1, x.f2, x.f3))
theorem k55_open {w : World} {x : S55} {cs : List Value} (h : k55.K w x cs) : cs = [.int .i16 x.f0.f0, .int .i16 x.f0.f1, .int .i16 x.f0.f2, .int .i16 x.f0.f3, .int .i16 x.f0.f4, .int .i16 x.f0.f5, .int .i16 x.f0.f6, .int .i16 x.f0.f7, .int .i16 x.f1.f0, .int .i16 x.f1.f1, .int .i16 x.f1.f2, .int .i16 x.f1.f3, .int .i16 x.f1.f4, .int .i16 x.f1.f5, .int .i16 x.f1.f6, .int .i16 x.f1.f7, .int .i16 x.f2.f0, .int .i16 x.f2.f1, .int .i16 x.f2.f2, .int .i16 x.f2.f3, .int .i16 x.f2.f4, .int .i16 x.f2.f5, .int .i16 x.f2.f6, .int .i16 x.f2.f7, .int .i32 x.f3] := by
  obtain ⟨_, _, rfl, s0, ⟨_, _, rfl, s8, ⟨_, _, rfl, s16, rfl⟩⟩⟩ := h
  obtain rfl := k53_open s0
  obtain rfl := k53_open s8
  obtain rfl := k53_open s16
  exact rfl
theorem k55_openM {w : World} {base : Nat} {ok : Nat → Prop} {x : S55} {cs : List Value} (h : k55.M w base ok x cs) : cs = [.int .i16 x.f0.f0, .int .i16 x.f0.f1, .int .i16 x.f0.f2, .int .i16 x.f0.f3, .int .i16 x.f0.f4, .int .i16 x.f0.f5, .int .i16 x.f0.f6, .int .i16 x.f0.f7, .int .i16 x.f1.f0, .int .i16 x.f1.f1, .int .i16 x.f1.f2, .int .i16 x.f1.f3, .int .i16 x.f1.f4, .int .i16 x.f1.f5, .int .i16 x.f1.f6, .int .i16 x.f1.f7, .int .i16 x.f2.f0, .int .i16 x.f2.f1, .int .i16 x.f2.f2, .int .i16 x.f2.f3, .int .i16 x.f2.f4, .int .i16 x.f2.f5, .int .i16 x.f2.f6, .int .i16 x.f2.f7, .int .i32 x.f3] := by
  obtain ⟨_, _, rfl, s0, ⟨_, _, rfl, s8, ⟨_, _, rfl, s16, rfl⟩⟩⟩ := h
  obtain rfl := k53_openM s0
  obtain rfl := k53_openM s8
  obtain rfl := k53_openM s16
  exact rfl
theorem k55_mkM (w : World) (base : Nat) (ok : Nat → Prop) (x : S55)  : k55.M w base ok x [.int .i16 x.f0.f0, .int .i16 x.f0.f1, .int .i16 x.f0.f2, .int .i16 x.f0.f3, .int .i16 x.f0.f4, .int .i16 x.f0.f5, .int .i16 x.f0.f6, .int .i16 x.f0.f7, .int .i16 x.f1.f0, .int .i16 x.f1.f1, .int .i16 x.f1.f2, .int .i16 x.f1.f3, .int .i16 x.f1.f4, .int .i16 x.f1.f5, .int .i16 x.f1.f6, .int .i16 x.f1.f7, .int .i16 x.f2.f0, .int .i16 x.f2.f1, .int .i16 x.f2.f2, .int .i16 x.f2.f3, .int .i16 x.f2.f4, .int .i16 x.f2.f5, .int .i16 x.f2.f6, .int .i16 x.f2.f7, .int .i32 x.f3] := ⟨[.int .i16 x.f0.f0, .int .i16 x.f0.f1, .int .i16 x.f0.f2, .int .i16 x.f0.f3, .int .i16 x.f0.f4, .int .i16 x.f0.f5, .int .i16 x.f0.f6, .int .i16 x.f0.f7], [.int .i16 x.f1.f0, .int .i16 x.f1.f1, .int .i16 x.f1.f2, .int .i16 x.f1.f3, .int .i16 x.f1.f4, .int .i16 x.f1.f5, .int .i16 x.f1.f6, .int .i16 x.f1.f7, .int .i16 x.f2.f0, .int .i16 x.f2.f1, .int .i16 x.f2.f2, .int .i16 x.f2.f3, .int .i16 x.f2.f4, .int .i16 x.f2.f5, .int .i16 x.f2.f6, .int .i16 x.f2.f7, .int .i32 x.f3], rfl, (k53_mkM w base ok x.f0 ), ⟨[.int .i16 x.f1.f0, .int .i16 x.f1.f1, .int .i16 x.f1.f2, .int .i16 x.f1.f3, .int .i16 x.f1.f4, .int .i16 x.f1.f5, .int .i16 x.f1.f6, .int .i16 x.f1.f7], [.int .i16 x.f2.f0, .int .i16 x.f2.f1, .int .i16 x.f2.f2, .int .i16 x.f2.f3, .int .i16 x.f2.f4, .int .i16 x.f2.f5, .int .i16 x.f2.f6, .int .i16 x.f2.f7, .int .i32 x.f3], rfl, (k53_mkM w base ok x.f1 ), ⟨[.int .i16 x.f2.f0, .int .i16 x.f2.f1, .int .i16 x.f2.f2, .int .i16 x.f2.f3, .int .i16 x.f2.f4, .int .i16 x.f2.f5, .int .i16 x.f2.f6, .int .i16 x.f2.f7], [.int .i32 x.f3], rfl, (k53_mkM w base ok x.f2 ), rfl⟩⟩⟩
def rd_T55 (xs : List S55) (i : Int) : S55 := xs.getD i.toNat z55
end Go.Proofs.Ytggjdcijplgpdaa.H
end
section
namespace Go.Proofs.Ytggjdcijplgpdaa.H
open Go.RowKit Go.Proofs.YtggjdcijplgpdaaW.PrintWords Go.Proofs.YtggjdcijplgpdaaW.PrintLast Go.Proofs.YtggjdcijplgpdaaW.PrintMore
attribute [local go_sem] max2_int min2_int max_two min_two max_three min_three max_four min_four
set_option linter.unusedVariables false
set_option linter.unusedSimpArgs false
theorem idx8_0 (a0 a1 a2 a3 a4 a5 a6 a7 : Int) (w : World) : (Instr.index 53 (.agg #[.int .i16 a0, .int .i16 a1, .int .i16 a2, .int .i16 a3, .int .i16 a4, .int .i16 a5, .int .i16 a6, .int .i16 a7]) (.int .i64 0)).run Try.prog w = .ok (.int .i16 a0) w := by kernel_rfl
theorem idx8_1 (a0 a1 a2 a3 a4 a5 a6 a7 : Int) (w : World) : (Instr.index 53 (.agg #[.int .i16 a0, .int .i16 a1, .int .i16 a2, .int .i16 a3, .int .i16 a4, .int .i16 a5, .int .i16 a6, .int .i16 a7]) (.int .i64 1)).run Try.prog w = .ok (.int .i16 a1) w := by kernel_rfl
theorem idx8_2 (a0 a1 a2 a3 a4 a5 a6 a7 : Int) (w : World) : (Instr.index 53 (.agg #[.int .i16 a0, .int .i16 a1, .int .i16 a2, .int .i16 a3, .int .i16 a4, .int .i16 a5, .int .i16 a6, .int .i16 a7]) (.int .i64 2)).run Try.prog w = .ok (.int .i16 a2) w := by kernel_rfl
theorem idx8_3 (a0 a1 a2 a3 a4 a5 a6 a7 : Int) (w : World) : (Instr.index 53 (.agg #[.int .i16 a0, .int .i16 a1, .int .i16 a2, .int .i16 a3, .int .i16 a4, .int .i16 a5, .int .i16 a6, .int .i16 a7]) (.int .i64 3)).run Try.prog w = .ok (.int .i16 a3) w := by kernel_rfl
theorem idx8_4 (a0 a1 a2 a3 a4 a5 a6 a7 : Int) (w : World) : (Instr.index 53 (.agg #[.int .i16 a0, .int .i16 a1, .int .i16 a2, .int .i16 a3, .int .i16 a4, .int .i16 a5, .int .i16 a6, .int .i16 a7]) (.int .i64 4)).run Try.prog w = .ok (.int .i16 a4) w := by kernel_rfl
theorem idx8_5 (a0 a1 a2 a3 a4 a5 a6 a7 : Int) (w : World) : (Instr.index 53 (.agg #[.int .i16 a0, .int .i16 a1, .int .i16 a2, .int .i16 a3, .int .i16 a4, .int .i16 a5, .int .i16 a6, .int .i16 a7]) (.int .i64 5)).run Try.prog w = .ok (.int .i16 a5) w := by kernel_rfl
theorem idx8_6 (a0 a1 a2 a3 a4 a5 a6 a7 : Int) (w : World) : (Instr.index 53 (.agg #[.int .i16 a0, .int .i16 a1, .int .i16 a2, .int .i16 a3, .int .i16 a4, .int .i16 a5, .int .i16 a6, .int .i16 a7]) (.int .i64 6)).run Try.prog w = .ok (.int .i16 a6) w := by kernel_rfl
theorem idx8_7 (a0 a1 a2 a3 a4 a5 a6 a7 : Int) (w : World) : (Instr.index 53 (.agg #[.int .i16 a0, .int .i16 a1, .int .i16 a2, .int .i16 a3, .int .i16 a4, .int .i16 a5, .int .i16 a6, .int .i16 a7]) (.int .i64 7)).run Try.prog w = .ok (.int .i16 a7) w := by kernel_rfl
theorem infoSt : (Try.prog.info? 55).map (fun i => (i.zero, i.size, i.bytes)) = some (some (.agg #[(.int .i16 0), (.int .i16 0), (.int .i16 0), (.int .i16 0), (.int .i16 0), (.int .i16 0), (.int .i16 0), (.int .i16 0), (.int .i16 0), (.int .i16 0), (.int .i16 0), (.int .i16 0), (.int .i16 0), (.int .i16 0), (.int .i16 0), (.int .i16 0), (.int .i16 0), (.int .i16 0), (.int .i16 0), (.int .i16 0), (.int .i16 0), (.int .i16 0), (.int .i16 0), (.int .i16 0), (.int .i32 0)]), 25, 52) := by kernel_rfl
theorem info23 : (Try.prog.info? 23).map (fun i => (i.zero, i.size, i.bytes)) = some (some (.int .i16 0), 1, 2) := by kernel_rfl
theorem wrap16_id {z : Int} (h0 : -32768 ≤ z) (h1 : z < 32768) : IntKind.i16.wrap z = z := by
  simp [IntKind.wrap, IntKind.bits, IntKind.signed]
  split <;> omega
theorem wrap32_id {z : Int} (h0 : -2147483648 ≤ z) (h1 : z < 2147483648) : IntKind.i32.wrap z = z := by rw [IntKind.wrap_i32]; omega
theorem w64i {z : Int} (h0 : -9223372036854775808 ≤ z) (h1 : z < 9223372036854775808) : wrap64 z = z := by
  unfold wrap64
  omega
end Go.Proofs.Ytggjdcijplgpdaa.H
end
