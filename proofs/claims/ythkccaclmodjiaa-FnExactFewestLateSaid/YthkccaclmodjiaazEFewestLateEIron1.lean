import Derived.Test.YthkccaclmodjiaazEFewestLateEBest
import Derived.Test.YthkccaclmodjiaazEFewestLateEChoose
import Derived.Test.YthkccaclmodjiaazEFewestLateI0
import Derived.Test.YthkccaclmodjiaazEFewestLateI17
import Derived.Test.YthkccaclmodjiaazEFewestLateI1
import Derived.Test.YthkccaclmodjiaazEFewestLateI4
import Derived.Test.YthkccaclmodjiaazEFewestLateI7
import Derived.Test.YthkccaclmodjiaazEFewestLateI15
import Derived.Test.YthkccaclmodjiaazEFewestLateI33
import Derived.Test.YthkccaclmodjiaazEFewestLateI44
import Derived.Shelf.Abstract
import Derived.RangeFuncBox
import Derived.OwnWalk
namespace Go.Proofs.Ythkccaclmodjiaa.I
open Go.RowKit Go.Proofs.YthkccaclmodjiaaW.PrintWords Go.Proofs.YthkccaclmodjiaaW.PrintLast Go.Proofs.YthkccaclmodjiaaW.PrintMore
attribute [local go_sem] max2_int min2_int max_two min_two max_three min_three max_four min_four
set_option linter.unusedVariables false
set_option linter.unusedSimpArgs false
open Go.Sort Go.Shelf Go.Lib
theorem ScoreOn.later {sg : Nat} {slb : Array Value} {sc : List Int → Int} {n : Nat} {w0 w1 : World} (h : ScoreOn sg slb sc n w0) (hb : Below w0.heap.size w0 w1) : ScoreOn sg slb sc n w1 :=
  fun W A c l hW h1 h2 h3 h4 => h W A c l (hb.trans (hW.mono hb.size)) h1 h2 h3 h4
def ironing (sc : List Int → Int) (n : Nat) (code : Int) : List Int × Int := if code = 0 then bestOf sc n else ([], 0)
set_option maxHeartbeats 8000000 in
set_option maxRecDepth 100000 in
theorem bestIroning_calls (k : Nat) (x y : Int) (A0 : Option Addr) (c0 : Nat) (l0 : List S57) (sg : Nat) (slb : Array Value) (sc : List Int → Int) (code : Int) (w : World) (hr0 : Kd.C k57 w A0 l0.length l0) (hc0 : l0.length ≤ c0) (hk : impl_ironCode.f k x y l0 = some code) (hn : code = 0 → l0.length ≤ 8)
    (esg : ∀ args w, (callFunc sg args).run Try.prog w = .ok (.enter sg args) w) (hsc : code = 0 → ScoreOn sg slb sc l0.length w) :
    Calls Try.prog 80 #[.agg #[.int .i8 x, .int .i8 y], .slice A0 l0.length c0, .func (.func sg) #[] slb] w fun e w' => ∃ v, e = .returned (.tuple #[v, .int .i64 (ironing sc l0.length code).2, .int .i64 code]) ∧ Kd.R (Kd.int .i64) 2 w' w.heap.size (fun _ => True) v (ironing sc l0.length code).1 ∧ Below w.heap.size w w' := by
  have HB0 := Aside0.mk (show Below w.heap.size w (w.alloc (.cells #[.int .i8 x, .int .i8 y] 27)) from (Below.refl _ w).alloc (Nat.le_refl _) _)
  have HP := Aside0.mk (impl_ironCode.calls k x y A0 c0 l0 code (w.alloc (.cells #[.int .i8 x, .int .i8 y] 27)) (Kd.C_below hr0 HB0.out) hc0 hk)
  have HN := Aside0.mk hn
  have HSC := Aside0.mk hsc
  have ESG := Aside0.mk esg
  clear hr0 hc0 hk hn hsc esg
  by_cases hc : code = 0
  · have hir : ironing sc l0.length code = bestOf sc l0.length := if_pos hc
    rw [hir]
    have h8 := HN.out hc
    have hsc := HSC.out hc
    subst hc
    have HS := Aside0.mk hsc
    clear hsc hir HSC HN
    go_enter Try.func80, Try.ntmps80
    go_wp2_with (first
      | (go_at_call 74; refine HP.out.mono ?_; rintro e w1 ⟨rfl, hb1⟩; have HB1 := Aside0.mk (HB0.out.trans (hb1.mono HB0.out.size)); clear hb1)
      | (go_at_call 109; refine (bestOrder_calls l0.length sg slb sc _ (by omega) ESG.out (HS.out.later HB1.out)).mono ?_; rintro e w2 ⟨v, rfl, hR, hb2⟩; have HR2 := Aside0.mk (Kd.R_lower hR HB1.out.size); have HB2 := Aside0.mk (HB1.out.trans (hb2.mono HB1.out.size)); clear hR hb2))
    go_ret3
    exact ⟨v, rfl, HR2.out, HB2.out⟩
  · have hir : ironing sc l0.length code = ([], 0) := if_neg hc
    rw [hir]
    have hc1 : (code == 0) = false := beq_eq_false_iff_ne.mpr hc
    have hc2 : (code != 0) = true := bne_iff_ne.mpr hc
    clear hir HSC HN
    go_enter Try.func80, Try.ntmps80
    go_wp2_with (go_at_call 74; refine HP.out.mono ?_; rintro e w1 ⟨rfl, hb1⟩; have HB1 := Aside0.mk (HB0.out.trans (hb1.mono HB0.out.size)); clear hb1)
    go_ret3
    exact ⟨.slice none 0 0, rfl, Kd.R_nil _ _ _ _ _, HB1.out⟩
theorem size_ints (A : Option Addr) (n c : Nat) (W : World) : Calls Try.prog 98 #[.slice A n c] W fun e w' => e = .returned (.int .i64 (n : Int)) ∧ Below W.heap.size W w' := by
  go_enter Try.func98, Try.ntmps98
  go_wp2
  go_ret
  exact ⟨rfl, Below.refl _ _⟩
structure IronEnv (x y : Int) (b : Nat) (A0 : Option Addr) (c0 : Nat) (l0 : List S57) (W : World) : Prop where
  k0 : W.cell? ⟨b, 0, none⟩ = some (.int .i8 x)
  k1 : W.cell? ⟨b, 1, none⟩ = some (.int .i8 y)
  kl : W.cell? ⟨b + 1, 0, none⟩ = some (.slice A0 l0.length c0)
  lt : b + 1 < W.heap.size
  rd : Kd.C k57 W A0 l0.length l0
  cap : l0.length ≤ c0
theorem IronEnv.below {x y : Int} {b : Nat} {A0 : Option Addr} {c0 : Nat} {l0 : List S57} {W w' : World} (h : IronEnv x y b A0 c0 l0 W) (hb : Below W.heap.size W w') : IronEnv x y b A0 c0 l0 w' :=
  ⟨(hb.cell (p := ⟨b, 0, none⟩) (by have := h.lt; show b < _; omega)).trans h.k0, (hb.cell (p := ⟨b, 1, none⟩) (by have := h.lt; show b < _; omega)).trans h.k1, (hb.cell (p := ⟨b + 1, 0, none⟩) h.lt).trans h.kl, Nat.lt_of_lt_of_le h.lt hb.size, Kd.C_below h.rd hb, h.cap⟩
set_option maxHeartbeats 8000000 in
set_option maxRecDepth 100000 in
theorem FewestLate_score (x y : Int) (b : Nat) (A0 : Option Addr) (c0 : Nat) (l0 : List S57) (sc : List Int → Int) (w0 : World) (hE : IronEnv x y b A0 c0 l0 w0)
    (hf : ∀ o, Begun l0.length o → o.length = l0.length → ∃ kf r1 r2, impl_Iron_late.f kf x y l0 o = some (r1, r2) ∧ (r1.length : Int) = sc o) :
    ScoreOn 97 #[.pointer (some ⟨b, 0, none⟩), .pointer (some ⟨b + 1, 0, none⟩)] sc l0.length w0 := by
  intro W A c o hW hbg hlen hcap hcl
  have E := hE.below hW
  obtain ⟨kf, r1, r2, h1, h2⟩ := hf o hbg hlen
  show Calls Try.prog 97 #[.slice A o.length c, .pointer (some ⟨b, 0, none⟩), .pointer (some ⟨b + 1, 0, none⟩)] W _
  have e0 := E.k0
  have e1 := E.k1
  have el := E.kl
  have EE := Aside0.mk E
  have HCL := Aside0.mk hcl
  have HCP := Aside0.mk hcap
  clear hE hf hW hbg hlen hcl hcap E
  go_enter Try.func97, Try.ntmps97
  have HF := Aside0.mk h1
  have HS := Aside0.mk h2
  clear h1 h2
  go_wp2_with (first
    | (go_at_call 95; refine (impl_Iron_late.calls kf x y A0 c0 l0 A c o r1 r2 _ EE.out.rd EE.out.cap HCL.out HCP.out HF.out).mono ?_; rintro e w1 ⟨v, rfl, hR, hb1⟩; have HB1 := Aside0.mk hb1; have HR1 := Aside0.mk hR; clear hb1 hR; obtain ⟨Ao, co, eo⟩ := Kd.R_slice HR1.out; subst eo)
    | (go_at_call 98; refine (size_ints Ao r1.length co _).mono ?_; rintro e w2 ⟨rfl, hb2⟩; have HB2 := Aside0.mk (HB1.out.trans (hb2.mono HB1.out.size)); clear hb2))
  go_ret
  exact ⟨by rw [← HS.out]; rfl, HB2.out⟩
end Go.Proofs.Ythkccaclmodjiaa.I
