import Derived.Test.YthkccaclmodjiaazETwoIronsEShortest1
import Derived.Test.YthkccaclmodjiaazETwoIronsEChoose
import Derived.Test.YthkccaclmodjiaazETwoIronsI32
import Derived.Test.YthkccaclmodjiaazETwoIronsI0
import Derived.Test.YthkccaclmodjiaazETwoIronsELayC
import Derived.Test.YthkccaclmodjiaazETwoIronsI5
import Derived.Shelf.Abstract
import Derived.RangeFuncBox
import Derived.OwnWalk
import Derived.Test.YthkccaclmodjiaazETwoIronsESortedV
import Derived.Test.YthkccaclmodjiaazETwoIronsEListsPiece
import Derived.Test.YthkccaclmodjiaazETwoIronsI17
section
namespace Go.Proofs.Ythkccaclmodjiaa.I
open Go.RowKit Go.Proofs.YthkccaclmodjiaaW.PrintWords Go.Proofs.YthkccaclmodjiaaW.PrintLast Go.Proofs.YthkccaclmodjiaaW.PrintMore
attribute [local go_sem] max2_int min2_int max_two min_two max_three min_three max_four min_four
set_option linter.unusedVariables false
set_option linter.unusedSimpArgs false
open Go.Sort Go.Shelf Go.Lib
def levelsTo (l : List S57) : Nat → List S57
  | 0 => []
  | i + 1 => if l.any (onLevel ((i : Int) + 1)) = true then levelsTo l i ++ [⟨(i : Int) + 1, 0, 0⟩] else levelsTo l i
theorem levelsTo_len (l : List S57) : ∀ i, (levelsTo l i).length ≤ i
  | 0 => Nat.le_refl _
  | i + 1 => by
    have := levelsTo_len l i
    rw [levelsTo]
    split
    · rw [List.length_append, List.length_singleton]; omega
    · omega
def ScoresOk (x y : Int) (L : List S57) : Prop := ∀ o, Begun L.length o → o.length = L.length → ∃ kf, impl_Iron_total.f kf x y L o = some (scTotal x y L o)
structure LevelEnv (x y : Int) (gx g5 b6 : Nat) (l : List S57) (w : World) (i : Nat) (v : Value) (W : World) : Prop where
  kx : W.heap[gx]? = some (.cells #[.int .i8 x, .int .i8 y] 27 (0, 0))
  k5 : W.heap[g5]? = some (.cells #[v] 33 (0, 0))
  k6 : W.heap[b6]? = some (.cells #[.int .i8 ((i : Int) + 1)] 22 (0, 0))
  ro : Kd.R k57 57 W w.heap.size (fun _ => True) v (levelsTo l i)
  ax : w.heap.size ≤ gx
  a5 : w.heap.size ≤ g5
  a6 : w.heap.size ≤ b6
  hb : Below w.heap.size w W
  lo : i ≤ 3
theorem LevelEnv.below {x y : Int} {gx g5 b6 : Nat} {l : List S57} {w : World} {i : Nat} {v : Value} {W W' : World} (E : LevelEnv x y gx g5 b6 l w i v W) (h : Below W.heap.size W W') : LevelEnv x y gx g5 b6 l w i v W' :=
  ⟨blk_below E.kx h, blk_below E.k5 h, blk_below E.k6 h, Kd.R_below E.ro h, E.ax, E.a5, E.a6, below_step E.hb h, E.lo⟩
theorem LevelEnv.n56 {x y : Int} {gx g5 b6 : Nat} {l : List S57} {w : World} {i : Nat} {v : Value} {W : World} (E : LevelEnv x y gx g5 b6 l w i v W) : g5 ≠ b6 := blk_ne (t := 33) (t' := 22) E.k5 E.k6 (by decide)
set_option maxHeartbeats 8000000 in
set_option maxRecDepth 100000 in
theorem shortest_walk (k : Nat) (x y : Int) (A0 : Option Addr) (c0 : Nat) (l0 : List S57) (m : Int) (w : World) (hr0 : Kd.C k57 w A0 l0.length l0) (hc0 : l0.length ≤ c0) (hm : impl_minutes.f k l0 = some m) (hs : ScoresOk x y (levelsTo l0 3)) :
    Calls Try.prog 91 #[.agg #[.int .i8 x, .int .i8 y], .slice A0 l0.length c0] w fun e w' => e = .returned (.int .i64 (wrap64 (m + (bestOf (scTotal x y (levelsTo l0 3)) (levelsTo l0 3).length).2))) ∧ Below w.heap.size w w' := by
  have hu57 := Try.underlying57
  have HR0 := Aside0.mk hr0
  have HC0 := Aside0.mk hc0
  have HM := Aside0.mk hm
  have HS := Aside0.mk hs
  clear hr0 hc0 hm hs
  have eg : ∀ args w, (callFunc 114 args).run Try.prog w = .ok (.enter 114 args) w := enters_of Try.func114 (by kernel_rfl) rfl
  have eg2 : ∀ args w, (callFunc 115 args).run Try.prog w = .ok (.enter 115 args) w := enters_of Try.func115 (by kernel_rfl) rfl
  have EG := Aside0.mk eg
  have EG2 := Aside0.mk eg2
  clear eg eg2
  go_enter Try.func91, Try.ntmps91
  go_wp2_with (first
    | ((with_reducible refine gate_dst (N := 2) rfl ?_); refine box_event ?hg (N := 2) ?hd (cs := #[.int .i8 x, .int .i8 y]) (t := 27) ?hr ?_; (case hd => rfl); (case hg => rfl); (case hr => first | (go_simp; done) | (go_simp; rfl)); intro gx hgx W1 hbx hb1; have GX := Aside0.mk (show w.heap.size ≤ gx from Nat.le_of_eq hgx.symm); have BX := Aside0.mk hbx; have HB := Aside0.mk hb1; clear hbx hb1 hgx)
    | ((with_reducible refine gate_dst (N := 9) rfl ?_); refine Kd.R_lit k57 _ 57 ?hg (N := 9) ?hd (xs := ([] : List S57)) (inner := []) (ok := fun _ => True) (okp := fun _ => True) ?hr ?hp (fun _ hk => hk) trivial (Below.refl _ _) (Nat.le_refl _) (by simp) ?_; (case hd => rfl); (case hg => rfl); (case hr => first | (go_simp; done) | (go_simp; rfl)); (case hp => exact (Reps.none _ _)); intro v0 W2 ho hb2 hg_ hnew_; clear hg_ hnew_; have RO := Aside0.mk (Kd.R_lower ho HB.out.size); obtain ⟨Av, cv, ev⟩ := Kd.R_slice RO.out; simp only [List.length_nil] at ev; subst ev; have n0_ := Aside0.mk (blk_below BX.out hb2); have n1_ := Aside0.mk (below_step HB.out hb2); clear BX HB ho hb2; have BX := n0_; have HB := n1_; clear n0_ n1_)
    | ((with_reducible refine gate_dst (N := 5) rfl ?_); refine box_event ?hg (N := 5) ?hd (cs := #[.slice none 0 0]) (t := 33) ?hr ?_; (case hd => rfl); (case hg => rfl); (case hr => first | (go_simp; done) | (go_simp; rfl)); intro g5 hg5 W3 hb5 hb3; have G5 := Aside0.mk (show w.heap.size ≤ g5 by rw [hg5]; exact HB.out.size); have n0_ := Aside0.mk (blk_below BX.out hb3); have n1_ := Aside0.mk (below_step HB.out hb3); have n2_ := Aside0.mk (Kd.R_below RO.out hb3); clear BX HB RO hb3 hg5; have BX := n0_; have HB := n1_; have RO := n2_; clear n0_ n1_ n2_; have hc5 : W3.cell? ⟨g5, 0, none⟩ = some (.slice none 0 0) := (blk_cell hb5 0).trans rfl; have hf5 := blk_frozen hb5 0; have B5 := Aside0.mk hb5; clear hb5)
    | ((with_reducible refine gate_dst (N := 6) rfl ?_); refine box_event ?hg (N := 6) ?hd (cs := #[.int .i8 0]) (t := 22) ?hr ?_; (case hd => rfl); (case hg => rfl); (case hr => first | (go_simp; done) | (go_simp; rfl)); intro b6 hg6 W4 hb6 hb4; have n0_ := Aside0.mk (blk_below (blk_far (p := ⟨g5, 0, none⟩) BX.out (blk_ne BX.out B5.out (by decide)) (.slice Av 0 cv)) hb4); have n1_ := Aside0.mk (blk_below (blk_put (cs := #[.slice none 0 0]) B5.out 0 (.slice Av 0 cv) rfl) hb4); have n2_ := Aside0.mk (Kd.R_below (Kd.R_mono (Kd.R_far (p := ⟨g5, 0, none⟩) (Kd.R_types RO.out B5.out (by decide)) (fun _ hk => hk.2) (.slice Av 0 cv)) (fun _ hk => hk.1)) hb4); have n3_ := Aside0.mk (below_step (below_set HB.out G5.out) hb4); have G6 := Aside0.mk (show w.heap.size ≤ b6 by rw [hg6]; exact (below_set (j := 0) (v := (.slice Av 0 cv)) HB.out G5.out).size); clear BX B5 RO HB hb4 hg6 hc5 hf5; have BX := n0_; have B5 := n1_; have RO := n2_; have HB := n3_; clear n0_ n1_ n2_ n3_; have hc6 : W4.cell? ⟨b6, 0, none⟩ = some (.int .i8 0) := (blk_cell hb6 0).trans rfl; have hf6 := blk_frozen hb6 0; have B6 := Aside0.mk hb6; clear hb6))
  go_loopg [6] 4 (fun gk v6 w' => ∃ (i : Nat) (b6 : Nat) (v : Value), v6 = .pointer (some ⟨b6, 0, none⟩) ∧ Aside0 (i + gk = 4) ∧ Aside0 (LevelEnv x y gx g5 b6 l0 w i v w'))
  case atStart =>
    refine ⟨0, b6, .slice Av 0 cv, rfl, ⟨rfl⟩, ⟨⟨?_, ?_, ?_, ?_, GX.out, G5.out, G6.out, ?_, by omega⟩⟩⟩
    · exact blk_far (p := ⟨b6, 0, none⟩) BX.out (blk_ne BX.out B6.out (by decide)) _
    · exact blk_far (p := ⟨b6, 0, none⟩) B5.out (blk_ne B5.out B6.out (by decide)) _
    · exact blk_put (cs := #[.int .i8 0]) B6.out 0 (.int .i8 1) rfl
    · exact Kd.R_mono (Kd.R_far (p := ⟨b6, 0, none⟩) (Kd.R_types RO.out B6.out (by decide)) (fun _ hk => hk.2) _) (fun _ hk => hk.1)
    · exact below_set HB.out G6.out
  case round =>
    clear hc6 hf6 BX B5 RO HB B6 G6
    obtain ⟨i, b6, v, rfl, HI, E⟩ := hrel
    by_cases hi : i = 3
    · subst hi
      obtain ⟨A5, c5, ev⟩ := Kd.R_slice E.out.ro
      subst ev
      have hc5 := (blk_cell E.out.k5 0).trans (show _ = some (Value.slice A5 (levelsTo l0 3).length c5) from rfl)
      have hc6 := (blk_cell E.out.k6 0).trans (show _ = some (Value.int .i8 4) from rfl)
      go_wp2_with (first
        | (go_at_call 109; refine (bestOrder_calls (levelsTo l0 3).length 115 #[.pointer (some ⟨gx, 0, none⟩), .pointer (some ⟨g5, 0, none⟩)] (scTotal x y (levelsTo l0 3)) _ (by have := levelsTo_len l0 3; omega) EG2.out (shortest_score x y gx g5 A5 c5 (levelsTo l0 3) _ _ (blk_lt E.out.kx) (blk_lt E.out.k5) ((blk_cell E.out.kx 0).trans rfl) ((blk_cell E.out.kx 1).trans rfl) ((blk_cell E.out.k5 0).trans rfl) (Kd.R_reads' E.out.ro).2.2 (Kd.R_reads' E.out.ro).2.1 HS.out)).mono ?_; rintro e w2 ⟨bv, rfl, hR, hb2⟩; have HB2 := Aside0.mk (below_step E.out.hb hb2); clear hR hb2)
        | (go_at_call 75; refine (impl_minutes.calls k A0 c0 l0 m _ (Kd.C_below HR0.out HB2.out) HC0.out HM.out).mono ?_; rintro e w3 ⟨rfl, hb3⟩; have HB3 := Aside0.mk (below_step HB2.out hb3); clear hb3))
      go_ret
      exact ⟨by first | rfl | (simp only [i64_w]; done), HB3.out⟩
    · have hlo : i < 3 := by have := E.out.lo; omega
      cases gk with
      | zero => exact absurd HI.out (by omega)
      | succ g =>
        obtain ⟨lv, hlv⟩ : ∃ lv : Int, (i : Int) + 1 = lv := ⟨_, rfl⟩
        have k6 := E.out.k6
        rw [hlv] at k6
        have c3 : decide (lv ≤ 3) = true := decide_eq_true (by omega)
        have wl : IntKind.i8.wrap (lv + 1) = lv + 1 := by rcases (show lv = 1 ∨ lv = 2 ∨ lv = 3 by omega) with h | h | h <;> rw [h] <;> rfl
        have HC := Aside0.mk (containsFunc_piece 114 #[.pointer (some ⟨b6, 0, none⟩)] EG.out (onLevel lv) A0 c0 l0 _ (Kd.C_below HR0.out E.out.hb) (fun W' z _ hb' => (level_pred lv z b6 W' (Nat.lt_of_lt_of_le (blk_lt k6) hb'.size) ((hb'.cell (p := ⟨b6, 0, none⟩) (blk_lt k6)).trans ((blk_cell k6 0).trans rfl))).mono fun e w' ⟨he, hd⟩ => ⟨he, below_step hb' hd⟩))
        obtain ⟨A5, c5, ev⟩ := Kd.R_slice E.out.ro
        subst ev
        have hc6 := (blk_cell k6 0).trans (show _ = some (Value.int .i8 lv) from rfl)
        have K6 := Aside0.mk k6
        clear k6
        have n56 : g5 ≠ b6 := E.out.n56
        have n65 : b6 ≠ g5 := E.out.n56.symm
        have WL := Aside0.mk wl
        clear wl
        cases hq : l0.any (onLevel lv) with
        | true =>
          rw [hq] at HC
          have el : levelsTo l0 (i + 1) = levelsTo l0 i ++ [⟨lv, 0, 0⟩] := by rw [levelsTo, hlv, if_pos hq]
          have EL := Aside0.mk el
          clear el
          have HLV := Aside0.mk hlv
          have HLO := Aside0.mk hlo
          clear hlv hlo hq
          go_wp2_with (first
            | (go_at_call 113; refine HC.out.mono ?_; rintro e w2 ⟨rfl, hb2⟩; have E2 := Aside0.mk (E.out.below hb2); have K62 := Aside0.mk (blk_below K6.out hb2); have hd5 : w2.cell? ⟨g5, 0, none⟩ = some (.slice A5 (levelsTo l0 i).length c5) := (blk_cell E2.out.k5 0).trans rfl; have hd6 : w2.cell? ⟨b6, 0, none⟩ = some (.int .i8 lv) := (blk_cell K62.out 0).trans rfl; clear hb2)
            | ((with_reducible refine gate_builtin (b := .append) (xs := #[.tmp 17, .tmp 20]) rfl ?_); at_builtin; refine Kd.R_append k57 (w0 := w) w.heap.size rfl (.tmp 17) (.tmp 20) 33 57 (.agg #[.int .i8 0, .int .i8 0, .int .i16 0]) 4 rfl Try.underlying33 info57 rfl (by decide) (by omega) (.slice A5 (levelsTo l0 i).length c5) (levelsTo l0 i) ⟨lv, 0, 0⟩ [.int .i8 lv, .int .i8 0, .int .i16 0] (fun _ => True) (fun _ => False) rfl rfl ?aP (fun _ hk => hk.elim) ?aF ?aO ?aB ?aS ?aL ?_; (case aP => exact k57_mkM _ _ _ ⟨lv, 0, 0⟩); (case aB => exact E2.out.hb); (case aF => exact (fun _ _ => trivial)); (case aO => exact E2.out.ro); (case aS => exact E2.out.hb.size); (case aL => have := levelsTo_len l0 i; have := HLO.out; omega); intro v1 w3 ho hb hg hat; have KX3 := Aside0.mk (blk_grown E2.out.kx hg (Kd.R_ne E2.out.ro E2.out.kx (by decide))); have K53 := Aside0.mk (blk_grown E2.out.k5 hg (Kd.R_ne E2.out.ro E2.out.k5 (by decide))); have K63 := Aside0.mk (blk_grown K62.out hg (Kd.R_ne E2.out.ro K62.out (by decide))); clear hd5 hd6 hat hg; obtain ⟨A1, c1, ev1⟩ := Kd.R_slice ho; rw [List.length_append, List.length_singleton] at ev1; subst ev1; have RO3 := Aside0.mk ho; have HB3 := Aside0.mk hb; clear ho hb; have he5 : w3.cell? ⟨g5, 0, none⟩ = some (.slice A5 (levelsTo l0 i).length c5) := (blk_cell K53.out 0).trans rfl; have hf5 := blk_frozen K53.out 0; have he6 : w3.cell? ⟨b6, 0, none⟩ = some (.int .i8 lv) := (blk_cell K63.out 0).trans rfl)
            | ((with_reducible refine gate_dst (N := 6) rfl ?_); refine box_event ?hg (N := 6) ?hd (cs := #[.int .i8 0]) (t := 22) ?hr ?_; (case hd => rfl); (case hg => rfl); (case hr => first | (go_simp; done) | (go_simp; rfl)); intro b7 hg7 w4 hb7 hb4; have KX4 := Aside0.mk (blk_below (blk_far (p := ⟨g5, 0, none⟩) KX3.out (blk_ne (t := 27) (t' := 33) KX3.out K53.out (by decide)) (.slice A1 ((levelsTo l0 i).length + 1) c1)) hb4); have K54 := Aside0.mk (blk_below (blk_put (cs := #[.slice A5 (levelsTo l0 i).length c5]) K53.out 0 (.slice A1 ((levelsTo l0 i).length + 1) c1) rfl) hb4); have RO4 := Aside0.mk (Kd.R_below (Kd.R_mono (Kd.R_far (p := ⟨g5, 0, none⟩) (Kd.R_types RO3.out K53.out (by decide)) (fun _ hk => hk.2) (.slice A1 ((levelsTo l0 i).length + 1) c1)) (fun _ hk => hk.1)) hb4); have HB4 := Aside0.mk (below_step (below_set (j := 0) (v := .slice A1 ((levelsTo l0 i).length + 1) c1) HB3.out G5.out) hb4); have G7 := Aside0.mk (show w.heap.size ≤ b7 by rw [hg7]; exact (below_set (j := 0) (v := .slice A1 ((levelsTo l0 i).length + 1) c1) HB3.out G5.out).size); clear hb4 hg7; have hc7 : w4.cell? ⟨b7, 0, none⟩ = some (.int .i8 0) := (blk_cell hb7 0).trans rfl; have hf7 := blk_frozen hb7 0; have K7 := Aside0.mk hb7; clear hb7))
          go_roundg g
          case measure => omega
          case rel =>
            refine ⟨i + 1, b7, .slice A1 ((levelsTo l0 i).length + 1) c1, rfl, ⟨by have := HI.out; omega⟩, ⟨⟨?_, ?_, ?_, ?_, GX.out, G5.out, G7.out, ?_, by have := HLO.out; omega⟩⟩⟩
            · exact blk_far (p := ⟨b7, 0, none⟩) (blk_far (p := ⟨b7, 0, none⟩) KX4.out (blk_ne (t := 27) (t' := 22) KX4.out K7.out (by decide)) _) (blk_ne (t := 27) (t' := 22) KX4.out K7.out (by decide)) _
            · exact blk_far (p := ⟨b7, 0, none⟩) (blk_far (p := ⟨b7, 0, none⟩) K54.out (blk_ne (t := 33) (t' := 22) K54.out K7.out (by decide)) _) (blk_ne (t := 33) (t' := 22) K54.out K7.out (by decide)) _
            · exact blk_put (cs := #[.int .i8 lv]) (cs' := #[.int .i8 (((i + 1 : Nat) : Int) + 1)]) (blk_put (cs := #[.int .i8 0]) K7.out 0 (.int .i8 lv) rfl) 0 (.int .i8 (IntKind.i8.wrap (lv + 1))) (by rw [WL.out, ← HLV.out]; rfl)
            · rw [EL.out]
              exact Kd.R_mono (Kd.R_far (p := ⟨b7, 0, none⟩) (Kd.R_far (p := ⟨b7, 0, none⟩) (Kd.R_types RO4.out K7.out (by decide)) (fun _ hk => hk.2) _) (fun _ hk => hk.2) _) (fun _ hk => hk.1)
            · exact below_set (below_set HB4.out G7.out) G7.out
        | false =>
          rw [hq] at HC
          have el : levelsTo l0 (i + 1) = levelsTo l0 i := by rw [levelsTo, hlv, if_neg (by rw [hq]; decide)]
          have EL := Aside0.mk el
          clear el
          have HLV := Aside0.mk hlv
          have HLO := Aside0.mk hlo
          clear hlv hlo hq
          go_wp2_with (first
            | (go_at_call 113; refine HC.out.mono ?_; rintro e w2 ⟨rfl, hb2⟩; have E2 := Aside0.mk (E.out.below hb2); have K62 := Aside0.mk (blk_below K6.out hb2); have hd5 : w2.cell? ⟨g5, 0, none⟩ = some (.slice A5 (levelsTo l0 i).length c5) := (blk_cell E2.out.k5 0).trans rfl; have hd6 : w2.cell? ⟨b6, 0, none⟩ = some (.int .i8 lv) := (blk_cell K62.out 0).trans rfl; clear hb2)
            | ((with_reducible refine gate_dst (N := 6) rfl ?_); refine box_event ?hg (N := 6) ?hd (cs := #[.int .i8 0]) (t := 22) ?hr ?_; (case hd => rfl); (case hg => rfl); (case hr => first | (go_simp; done) | (go_simp; rfl)); intro b7 hg7 w4 hb7 hb4; have KX4 := Aside0.mk (blk_below (E2.out.kx) hb4); have K54 := Aside0.mk (blk_below (E2.out.k5) hb4); have RO4 := Aside0.mk (Kd.R_below (E2.out.ro) hb4); have HB4 := Aside0.mk (below_step (E2.out.hb) hb4); have G7 := Aside0.mk (show w.heap.size ≤ b7 by rw [hg7]; exact (E2.out.hb).size); clear hb4 hg7; have hc7 : w4.cell? ⟨b7, 0, none⟩ = some (.int .i8 0) := (blk_cell hb7 0).trans rfl; have hf7 := blk_frozen hb7 0; have K7 := Aside0.mk hb7; clear hb7))
          go_roundg g
          case measure => omega
          case rel =>
            refine ⟨i + 1, b7, .slice A5 (levelsTo l0 i).length c5, rfl, ⟨by have := HI.out; omega⟩, ⟨⟨?_, ?_, ?_, ?_, GX.out, G5.out, G7.out, ?_, by have := HLO.out; omega⟩⟩⟩
            · exact blk_far (p := ⟨b7, 0, none⟩) (blk_far (p := ⟨b7, 0, none⟩) KX4.out (blk_ne (t := 27) (t' := 22) KX4.out K7.out (by decide)) _) (blk_ne (t := 27) (t' := 22) KX4.out K7.out (by decide)) _
            · exact blk_far (p := ⟨b7, 0, none⟩) (blk_far (p := ⟨b7, 0, none⟩) K54.out (blk_ne (t := 33) (t' := 22) K54.out K7.out (by decide)) _) (blk_ne (t := 33) (t' := 22) K54.out K7.out (by decide)) _
            · exact blk_put (cs := #[.int .i8 lv]) (cs' := #[.int .i8 (((i + 1 : Nat) : Int) + 1)]) (blk_put (cs := #[.int .i8 0]) K7.out 0 (.int .i8 lv) rfl) 0 (.int .i8 (IntKind.i8.wrap (lv + 1))) (by rw [WL.out, ← HLV.out]; rfl)
            · rw [EL.out]
              exact Kd.R_mono (Kd.R_far (p := ⟨b7, 0, none⟩) (Kd.R_far (p := ⟨b7, 0, none⟩) (Kd.R_types RO4.out K7.out (by decide)) (fun _ hk => hk.2) _) (fun _ hk => hk.2) _) (fun _ hk => hk.1)
            · exact below_set (below_set HB4.out G7.out) G7.out
end Go.Proofs.Ythkccaclmodjiaa.I
end
section
namespace Go.Proofs.Ythkccaclmodjiaa.I
open Go.RowKit Go.Proofs.YthkccaclmodjiaaW.PrintWords Go.Proofs.YthkccaclmodjiaaW.PrintLast Go.Proofs.YthkccaclmodjiaaW.PrintMore
attribute [local go_sem] max2_int min2_int max_two min_two max_three min_three max_four min_four
set_option linter.unusedVariables false
set_option linter.unusedSimpArgs false
def Fine0 (l : List S57) : Prop := ∀ p ∈ l, wrap64 p.f0 = p.f0 ∧ wrap64 p.f1 = p.f1 ∧ wrap64 p.f2 = p.f2 ∧ 1 ≤ p.f0 ∧ p.f0 ≤ 3 ∧ 0 ≤ p.f1 ∧ p.f1 ≤ 60
theorem piece_at0 (l : List S57) (h : Fine0 l) (o : Int) (h0 : 0 ≤ o) (h1 : o < l.length) : wrap64 (rd_T57 l o).f0 = (rd_T57 l o).f0 ∧ wrap64 (rd_T57 l o).f1 = (rd_T57 l o).f1 ∧ wrap64 (rd_T57 l o).f2 = (rd_T57 l o).f2 ∧ 1 ≤ (rd_T57 l o).f0 ∧ (rd_T57 l o).f0 ≤ 3 ∧ 0 ≤ (rd_T57 l o).f1 ∧ (rd_T57 l o).f1 ≤ 60 := by
  obtain ⟨i, rfl⟩ : ∃ i : Nat, o = (i : Int) := ⟨o.toNat, by omega⟩
  have c : i < l.length := by omega
  rw [rd57_lt l i c]
  exact h l[i] (List.getElem_mem _)
theorem step_bd0 (now C p1 : Int) (i : Nat) (h8 : i < 8) (hn : 0 ≤ now ∧ now ≤ 240 * (i : Int)) (hC : 0 ≤ C ∧ C ≤ 180) (hp : 0 ≤ p1 ∧ p1 ≤ 60) :
    wrap64 (C + p1) = C + p1 ∧ wrap64 (now + (C + p1)) = now + (C + p1) ∧ 0 ≤ now + (C + p1) ∧ now + (C + p1) ≤ 240 * ((i + 1 : Nat) : Int) :=
  ⟨w64 _ (by omega) (by omega), w64 _ (by omega) (by omega), by omega, by omega⟩
theorem finish_key0 (x y : Int) (hx : wrap64 x = x ∧ 0 ≤ x ∧ x ≤ 60) (hy : wrap64 y = y ∧ 0 ≤ y ∧ y ≤ 60) (l : List S57) (h : Fine0 l) (o : List Int) (h8 : o.length ≤ 8) (hr : ∀ z ∈ o, 0 ≤ z ∧ z < l.length) :
    ∀ (r : List Int) (i : Nat) (out : List Int) (lv now : Int), o.drop i = r → i + r.length = o.length → out.length = i → 0 ≤ lv ∧ lv ≤ 3 → 0 ≤ now ∧ now ≤ 240 * i →
      Ev (fun k => impl_Iron_finish.l0 k l out now lv o (o.length : Int) (i : Int) x y) (out ++ timesOf x y l lv now r) := by
  intro r
  induction r with
  | nil =>
    intro i out lv now hd hi _ _ _
    rw [List.length_nil] at hi
    rw [timesOf, List.append_nil]
    refine Ev.step (f := fun _ => some out) (fun k => ?_) (Ev.const rfl)
    rw [impl_Iron_finish.l0]
    rw [if_neg (by omega)]
  | cons z r ih =>
    intro i out lv now hd hi hout hlv hnow
    rw [List.length_cons] at hi
    have c : i < o.length := by omega
    have c1 : (i : Int) < (o.length : Int) := by omega
    have c2 : (0 : Int) ≤ (i : Int) := by omega
    have c3 : out.length < 17592186044416 := by omega
    have ci8 : i < 8 := by omega
    have ci9 : i + 1 + r.length = o.length := by omega
    have w1 : wrap64 ((i : Int) + 1) = ((i + 1 : Nat) : Int) := by rw [w64 _ (by omega) (by omega)]; rfl
    have e := List.drop_eq_getElem_cons c
    rw [hd] at e
    injection e with e1 e2
    have hz := hr z (by rw [e1]; exact List.getElem_mem _)
    have rz : rd o (i : Int) = z := by rw [rd_of_lt o i c, ← e1]
    have f := piece_at0 l h z hz.1 hz.2
    rw [timesOf]
    rcases hP : rd_T57 l z with ⟨p0, p1, p2⟩
    rw [hP] at f
    dsimp only at f ⊢
    have cb := chg_bd x y lv p0 hx.2 hy.2 hlv (lv_bd f.2.2.2.1 f.2.2.2.2.1)
    have s2 := implChange_f x y lv p0 hx hy hlv (lv_bd f.2.2.2.1 f.2.2.2.2.1)
    generalize chg x y lv p0 = C at cb s2 ⊢
    have b1 := f.2.2.2.2.2.1
    have b2 := f.2.2.2.2.2.2
    have b3 := f.2.2.2.1
    have b4 := f.2.2.2.2.1
    have v1 := f.1
    have v2 := f.2.1
    clear f
    obtain ⟨w2, w3, m1⟩ := step_bd0 now C p1 i ci8 hnow cb ⟨b1, b2⟩
    have n1 := ih (i + 1) (out ++ [now + (C + p1)]) p0 (now + (C + p1)) e2.symm ci9 (by rw [List.length_append, hout]; rfl) (lv_bd b3 b4) m1
    rw [List.append_assoc] at n1
    refine Ev.step (f := fun k => impl_Iron_finish.l0 k l (out ++ [now + (C + p1)]) (now + (C + p1)) p0 o (o.length : Int) ((i + 1 : Nat) : Int) x y) (fun k => ?_) n1
    rw [impl_Iron_finish.l0]
    rw [if_pos c1, if_pos c2, if_pos c1, rz, if_pos hz.1, if_pos hz.2, hP]
    dsimp only
    rw [v1, s2, Option.bind_some, if_pos c3, v2, w2, w3, w1]
theorem mild_scores {x y : Int} {l : List S57} (hx : wrap64 x = x ∧ 0 ≤ x ∧ x ≤ 60) (hy : wrap64 y = y ∧ 0 ≤ y ∧ y ≤ 60) (h8 : l.length ≤ 8) (hf : Fine0 l) : ScoresOk x y l := by
  intro o hb hl
  refine Ev.get ?_
  have h1 : Ev (fun k => impl_Iron_finish.f k x y l o) (timesOf x y l 0 0 o) := finish_key0 x y hx hy l hf o (by omega) hb.range o 0 [] 0 0 rfl (by omega) rfl ⟨by omega, by omega⟩ ⟨by omega, by omega⟩
  have tl := timesOf_len x y l o 0 0
  unfold scTotal
  generalize timesOf x y l 0 0 o = t at h1 tl ⊢
  unfold lastOf
  by_cases z : (t.length : Int) = 0
  · rw [if_pos z]
    exact Ev.bind h1 (Ev.ite_t z (Ev.const rfl))
  · rw [if_neg z]
    have w : wrap64 ((t.length : Int) - 1) = (t.length : Int) - 1 := w64 _ (by omega) (by omega)
    refine Ev.bind h1 (Ev.ite_f z ?_)
    rw [w]
    exact Ev.ite_t (by omega) (Ev.ite_t (by omega) (Ev.const rfl))
theorem levels_fine (l : List S57) : ∀ i, i ≤ 3 → Fine0 (levelsTo l i)
  | 0, _ => fun p hp => by cases hp
  | i + 1, hi => by
    have h := levels_fine l i (by omega)
    rw [levelsTo]
    split
    · intro p hp
      rcases List.mem_append.mp hp with hp | hp
      · exact h p hp
      · obtain rfl := List.mem_singleton.mp hp
        exact ⟨w64 ((i : Int) + 1) (by omega) (by omega), w64 0 (by omega) (by omega), w64 0 (by omega) (by omega), show 1 ≤ (i : Int) + 1 by omega, show (i : Int) + 1 ≤ 3 by omega, show (0 : Int) ≤ 0 by omega, show (0 : Int) ≤ 60 by omega⟩
    · exact h
def ironB (x y : Int) : Bool := decide (wrap64 x = x ∧ 0 ≤ x ∧ x ≤ 60) && decide (wrap64 y = y ∧ 0 ≤ y ∧ y ≤ 60)
def impl_Iron_shortest.f (k : Nat) (a0_0 : Int) (a0_1 : Int) (l1 : List (S57)) : Option Int := (impl_minutes.f k l1).bind fun m => if ironB a0_0 a0_1 = true then some (wrap64 (m + (bestOf (scTotal a0_0 a0_1 (levelsTo l1 3)) (levelsTo l1 3).length).2)) else none
theorem impl_Iron_shortest.mono : ∀ a0 a1 a2 k, LeO (impl_Iron_shortest.f k a0 a1 a2) (impl_Iron_shortest.f (k + 1) a0 a1 a2) := fun _ _ a2 k => LeO.bind (impl_minutes.mono a2 k) (fun _ => LeO.refl _)
theorem impl_Iron_shortest.calls (k : Nat) (x : Int) (y : Int) (A0 : Option Addr) (c0 : Nat) (l0 : List (S57)) (r : Int) (w : World) (hr1 : Kd.C k57 w A0 l0.length l0) (hc1 : l0.length ≤ c0) (h : impl_Iron_shortest.f k x y l0 = some r) :
    Calls Try.prog 91 #[.agg #[.int .i8 x, .int .i8 y], .slice A0 l0.length c0] w fun e w' => e = .returned (.int .i64 r) ∧ Below w.heap.size w w' := by
  obtain ⟨m, hm, h⟩ := Option.bind_eq_some_iff.mp h
  by_cases b : ironB x y = true
  · rw [if_pos b] at h
    obtain rfl := Option.some.inj h
    unfold ironB at b
    rw [Bool.and_eq_true, decide_eq_true_iff, decide_eq_true_iff] at b
    exact shortest_walk k x y A0 c0 l0 m w hr1 hc1 hm (mild_scores b.1 b.2 (by have := levelsTo_len l0 3; omega) (levels_fine l0 3 (Nat.le_refl _)))
  · rw [if_neg b] at h
    cases h
end Go.Proofs.Ythkccaclmodjiaa.I
end
