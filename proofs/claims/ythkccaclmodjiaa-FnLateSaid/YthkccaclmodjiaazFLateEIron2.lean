import Derived.Test.YthkccaclmodjiaazFLateEChoose
import Derived.Test.YthkccaclmodjiaazFLateEChoose2
import Derived.Test.YthkccaclmodjiaazFLateELayC
import Derived.Test.YthkccaclmodjiaazFLateI0
import Derived.Shelf.Abstract
import Derived.RangeFuncBox
import Derived.Laws.EntriesVeiled
import Derived.Shelf.SlSortCmp.Insertion1
import Derived.Test.YthkccaclmodjiaazFLateI17
import Derived.Test.YthkccaclmodjiaazFLateELayS
import Derived.Test.YthkccaclmodjiaazFLateI44
import Derived.OwnWalk
import Derived.Test.YthkccaclmodjiaazFLateELayI
import Derived.Test.YthkccaclmodjiaazFLateEBOrd
import Derived.Test.YthkccaclmodjiaazFLateEBTime
section
namespace Go.Proofs.Ythkccaclmodjiaa.I
open Go.RowKit Go.Proofs.YthkccaclmodjiaaW.PrintWords Go.Proofs.YthkccaclmodjiaaW.PrintLast Go.Proofs.YthkccaclmodjiaaW.PrintMore
attribute [local go_sem] max2_int min2_int max_two min_two max_three min_three max_four min_four
set_option linter.unusedVariables false
set_option linter.unusedSimpArgs false
open Go.Sort Go.Shelf Go.Lib
def bestOf (sc : List Int → Int) (n : Nat) : List Int × Int := searchOf sc n n [] ([], -1)
set_option maxHeartbeats 8000000 in
set_option maxRecDepth 100000 in
theorem bestOrder_calls (n sg : Nat) (slb : Array Value) (sc : List Int → Int) (w0 : World) (hn : n ≤ 1000) (esg : ∀ args w, (callFunc sg args).run Try.prog w = .ok (.enter sg args) w) (hsc : ScoreOn sg slb sc n w0) :
 Calls Try.prog 109 #[.int .i64 (n : Int), .func (.func sg) #[] slb] w0 fun e w' => ∃ v, e = .returned (.tuple #[v, .int .i64 (bestOf sc n).2]) ∧ Kd.R (Kd.int .i64) 2 w' w0.heap.size (fun _ => True) v (bestOf sc n).1 ∧ Below w0.heap.size w0 w' := by
 obtain ⟨W0, hW0⟩ : ∃ W0, ((((w0.alloc (.cells #[.int .i64 (n : Int)] 3)).alloc (.cells #[.func (.func sg) #[] slb] 74)).alloc (.cells #[.slice none 0 0] 37)).alloc (.cells #[.int .i64 (-1)] 2)).alloc (.cells #[.func (.func 122) #[] (cbOf w0.heap.size)] 100) = W0 := ⟨_, rfl⟩
 have E0 : Env w0.heap.size n sg slb W0 (.slice none 0 0) [] (-1) := by
  rw [← hW0]
  refine ⟨((((Boxed.new w0 _ _).alloc _).alloc _).alloc _).alloc _, ?_, ?_, ?_, ?_, Kd.R_nil _ _ _ _ _⟩
  · have := Boxed.new (w0.alloc (.cells #[.int .i64 (n : Int)] 3)) 74 (.func (.func sg) #[] slb)
    rw [World.size_alloc] at this
    exact ((this.alloc _).alloc _).alloc _
  · have := Boxed.new ((w0.alloc (.cells #[.int .i64 (n : Int)] 3)).alloc (.cells #[.func (.func sg) #[] slb] 74)) 37 (.slice none 0 0)
    rw [World.size_alloc, World.size_alloc] at this
    exact (this.alloc _).alloc _
  · have := Boxed.new (((w0.alloc (.cells #[.int .i64 (n : Int)] 3)).alloc (.cells #[.func (.func sg) #[] slb] 74)).alloc (.cells #[.slice none 0 0] 37)) 2 (.int .i64 (-1))
    rw [World.size_alloc, World.size_alloc, World.size_alloc] at this
    exact this.alloc _
  · have := Boxed.new ((((w0.alloc (.cells #[.int .i64 (n : Int)] 3)).alloc (.cells #[.func (.func sg) #[] slb] 74)).alloc (.cells #[.slice none 0 0] 37)).alloc (.cells #[.int .i64 (-1)] 2)) 100 (.func (.func 122) #[] (cbOf w0.heap.size))
    rw [World.size_alloc, World.size_alloc, World.size_alloc, World.size_alloc] at this
    exact this
 have B0 : Below w0.heap.size w0 W0 := by
  rw [← hW0]
  exact (((((Below.refl _ w0).alloc (Nat.le_refl _) _).alloc (by simp) _).alloc (by simp; omega) _).alloc (by simp; omega) _).alloc (by simp; omega) _
 have eg : ∀ args w, (callFunc 122 args).run Try.prog w = .ok (.enter 122 args) w := enters_of Try.func122 (by kernel_rfl) rfl
 have HC := Aside0.mk (choose_calls w0.heap.size n sg slb sc w0 rfl hn esg hsc n (.slice none 0 0) [] W0 (.slice none 0 0) [] (-1) (by simp) ⟨List.Pairwise.nil, fun x hx => by cases hx⟩ E0 (Kd.R_nil _ _ _ _ _) B0)
 have c0 : W0.cell? ⟨w0.heap.size + 1 + 1 + 1 + 1, 0, none⟩ = some (.func (.func 122) #[] #[.pointer (some ⟨w0.heap.size, 0, none⟩), .pointer (some ⟨w0.heap.size + 1, 0, none⟩), .pointer (some ⟨w0.heap.size + 1 + 1 + 1, 0, none⟩), .pointer (some ⟨w0.heap.size + 1 + 1, 0, none⟩), .pointer (some ⟨w0.heap.size + 1 + 1 + 1 + 1, 0, none⟩)]) := E0.bc.cell
 clear E0 B0 hsc esg
 rw [show cbOf w0.heap.size = #[.pointer (some ⟨w0.heap.size, 0, none⟩), .pointer (some ⟨w0.heap.size + 1, 0, none⟩), .pointer (some ⟨w0.heap.size + 1 + 1 + 1, 0, none⟩), .pointer (some ⟨w0.heap.size + 1 + 1, 0, none⟩), .pointer (some ⟨w0.heap.size + 1 + 1 + 1 + 1, 0, none⟩)] from rfl] at hW0
 replace HC : Aside0 (Calls Try.prog 122 #[.slice none 0 0, .pointer (some ⟨w0.heap.size, 0, none⟩), .pointer (some ⟨w0.heap.size + 1, 0, none⟩), .pointer (some ⟨w0.heap.size + 1 + 1 + 1, 0, none⟩), .pointer (some ⟨w0.heap.size + 1 + 1, 0, none⟩), .pointer (some ⟨w0.heap.size + 1 + 1 + 1 + 1, 0, none⟩)] W0 _) := HC
 go_enter Try.func109, Try.ntmps109
 go_wp2_with ((with_reducible refine HC.out.mono ?_); rintro e w1 ⟨rfl, bv, hE, hB, hM⟩; have EE := Aside0.mk hE; have BB := Aside0.mk hB; clear hE hB hM; have cb : w1.cell? ⟨w0.heap.size + 1 + 1, 0, none⟩ = some bv := EE.out.bb.cell; have cl : w1.cell? ⟨w0.heap.size + 1 + 1 + 1, 0, none⟩ = some (.int .i64 (bestOf sc n).2) := EE.out.bl.cell)
 have mixed : Try.prog.follows .mixedOrders = true := by kernel_rfl
 have gb : ∀ n os, (grow (w1.drewN n) os).cell? ⟨w0.heap.size + 1 + 1, 0, none⟩ = some bv := fun n os => cell_grown EE.out.bb.lt cb n os
 have gl : ∀ q os, (grow (w1.drewN q) os).cell? ⟨w0.heap.size + 1 + 1 + 1, 0, none⟩ = some (.int .i64 (bestOf sc n).2) := fun q os => cell_grown EE.out.bl.lt cl q os
 clear cb cl
 go_quiet_grown (fail)
 go_wp2
 go_ret2
 have hb := below_grow w1 nq osq
 exact ⟨bv, rfl, Kd.R_below (Kd.R_lower EE.out.rb (by omega)) hb, BB.out.trans (hb.mono BB.out.size)⟩
end Go.Proofs.Ythkccaclmodjiaa.I
end
section
namespace Go.Proofs.Ythkccaclmodjiaa.I
open Go.RowKit Go.Proofs.YthkccaclmodjiaaW.PrintWords Go.Proofs.YthkccaclmodjiaaW.PrintLast Go.Proofs.YthkccaclmodjiaaW.PrintMore
attribute [local go_sem] max2_int min2_int max_two min_two max_three min_three max_four min_four
set_option linter.unusedVariables false
set_option linter.unusedSimpArgs false
open Go.Sort Go.Shelf Go.Lib
theorem ScoreOn.later {sg : Nat} {slb : Array Value} {sc : List Int → Int} {n : Nat} {w0 w1 : World} (h : ScoreOn sg slb sc n w0) (hb : Below w0.heap.size w0 w1) : ScoreOn sg slb sc n w1 :=
 fun W A c l hW h1 h2 h3 h4 => h W A c l (hb.trans (hW.mono hb.size)) h1 h2 h3 h4
def ironing (sc : List Int → Int) (n : Nat) (code : Int) : List Int × Int := if code = 0 then bestOf sc n else ([], 0)
set_option maxHeartbeats 8000000 in
set_option maxRecDepth 100000 in
theorem bestIroning_calls (k : Nat) (x y : Int) (A0 : Option Addr) (c0 : Nat) (l0 : List S57) (sg : Nat) (slb : Array Value) (sc : List Int → Int) (code : Int) (w : World) (hr0 : Kd.C k57 w A0 l0.length l0) (hc0 : l0.length ≤ c0) (hk : impl_ironCode.f k x y l0 = some code) (hn : code = 0 → l0.length ≤ 8)
 (esg : ∀ args w, (callFunc sg args).run Try.prog w = .ok (.enter sg args) w) (hsc : code = 0 → ScoreOn sg slb sc l0.length w) :
 Calls Try.prog 80 #[.agg #[.int .i8 x, .int .i8 y], .slice A0 l0.length c0, .func (.func sg) #[] slb] w fun e w' => ∃ v, e = .returned (.tuple #[v, .int .i64 (ironing sc l0.length code).2, .int .i64 code]) ∧ Kd.R (Kd.int .i64) 2 w' w.heap.size (fun _ => True) v (ironing sc l0.length code).1 ∧ Below w.heap.size w w' := by
 have HB0 := Aside0.mk (show Below w.heap.size w (w.alloc (.cells #[.int .i8 x, .int .i8 y] 27)) from (Below.refl _ w).alloc (Nat.le_refl _) _)
 have HP := Aside0.mk (impl_ironCode.calls k x y A0 c0 l0 code (w.alloc (.cells #[.int .i8 x, .int .i8 y] 27)) (Kd.C_below hr0 HB0.out) hc0 hk)
 have HN := Aside0.mk hn
 have HSC := Aside0.mk hsc
 have ESG := Aside0.mk esg
 clear hr0 hc0 hk hn hsc esg
 by_cases hc : code = 0
 · have hir : ironing sc l0.length code = bestOf sc l0.length := if_pos hc
   rw [hir]
   have h8 := HN.out hc
   have hsc := HSC.out hc
   subst hc
   have HS := Aside0.mk hsc
   clear hsc hir HSC HN
   go_enter Try.func80, Try.ntmps80
   go_wp2_with (first
    | (go_at_call 74; refine HP.out.mono ?_; rintro e w1 ⟨rfl, hb1⟩; have HB1 := Aside0.mk (HB0.out.trans (hb1.mono HB0.out.size)); clear hb1)
    | (go_at_call 109; refine (bestOrder_calls l0.length sg slb sc _ (by omega) ESG.out (HS.out.later HB1.out)).mono ?_; rintro e w2 ⟨v, rfl, hR, hb2⟩; have HR2 := Aside0.mk (Kd.R_lower hR HB1.out.size); have HB2 := Aside0.mk (HB1.out.trans (hb2.mono HB1.out.size)); clear hR hb2))
   go_ret3
   exact ⟨v, rfl, HR2.out, HB2.out⟩
 · have hir : ironing sc l0.length code = ([], 0) := if_neg hc
   rw [hir]
   have hc1 : (code == 0) = false := beq_eq_false_iff_ne.mpr hc
   have hc2 : (code != 0) = true := bne_iff_ne.mpr hc
   clear hir HSC HN
   go_enter Try.func80, Try.ntmps80
   go_wp2_with (go_at_call 74; refine HP.out.mono ?_; rintro e w1 ⟨rfl, hb1⟩; have HB1 := Aside0.mk (HB0.out.trans (hb1.mono HB0.out.size)); clear hb1)
   go_ret3
   exact ⟨.slice none 0 0, rfl, Kd.R_nil _ _ _ _ _, HB1.out⟩
theorem size_ints (A : Option Addr) (n c : Nat) (W : World) : Calls Try.prog 98 #[.slice A n c] W fun e w' => e = .returned (.int .i64 (n : Int)) ∧ Below W.heap.size W w' := by
 go_enter Try.func98, Try.ntmps98
 go_wp2
 go_ret
 exact ⟨rfl, Below.refl _ _⟩
structure IronEnv (x y : Int) (b : Nat) (A0 : Option Addr) (c0 : Nat) (l0 : List S57) (W : World) : Prop where
 k0 : W.cell? ⟨b, 0, none⟩ = some (.int .i8 x)
 k1 : W.cell? ⟨b, 1, none⟩ = some (.int .i8 y)
 kl : W.cell? ⟨b + 1, 0, none⟩ = some (.slice A0 l0.length c0)
 lt : b + 1 < W.heap.size
 rd : Kd.C k57 W A0 l0.length l0
 cap : l0.length ≤ c0
theorem IronEnv.below {x y : Int} {b : Nat} {A0 : Option Addr} {c0 : Nat} {l0 : List S57} {W w' : World} (h : IronEnv x y b A0 c0 l0 W) (hb : Below W.heap.size W w') : IronEnv x y b A0 c0 l0 w' :=
 ⟨(hb.cell (p := ⟨b, 0, none⟩) (by have := h.lt; show b < _; omega)).trans h.k0, (hb.cell (p := ⟨b, 1, none⟩) (by have := h.lt; show b < _; omega)).trans h.k1, (hb.cell (p := ⟨b + 1, 0, none⟩) h.lt).trans h.kl, Nat.lt_of_lt_of_le h.lt hb.size, Kd.C_below h.rd hb, h.cap⟩
set_option maxHeartbeats 8000000 in
set_option maxRecDepth 100000 in
theorem LeastLateness_score (x y : Int) (b : Nat) (A0 : Option Addr) (c0 : Nat) (l0 : List S57) (sc : List Int → Int) (w0 : World) (hE : IronEnv x y b A0 c0 l0 w0)
 (hf : ∀ o, Begun l0.length o → o.length = l0.length → ∃ kf r1, impl_Iron_late.f kf x y l0 o = some (r1, sc o)) :
 ScoreOn 96 #[.pointer (some ⟨b, 0, none⟩), .pointer (some ⟨b + 1, 0, none⟩)] sc l0.length w0 := by
 intro W A c o hW hbg hlen hcap hcl
 have E := hE.below hW
 obtain ⟨kf, r1, h1⟩ := hf o hbg hlen
 show Calls Try.prog 96 #[.slice A o.length c, .pointer (some ⟨b, 0, none⟩), .pointer (some ⟨b + 1, 0, none⟩)] W _
 have e0 := E.k0
 have e1 := E.k1
 have el := E.kl
 have EE := Aside0.mk E
 have HCL := Aside0.mk hcl
 have HCP := Aside0.mk hcap
 clear hE hf hW hbg hlen hcl hcap E
 go_enter Try.func96, Try.ntmps96
 obtain ⟨r2, hr2⟩ : ∃ r2, r2 = sc o := ⟨_, rfl⟩
 rw [← hr2] at h1 ⊢
 have HF := Aside0.mk h1
 clear h1 hr2
 go_wp2_with (go_at_call 95; refine (impl_Iron_late.calls kf x y A0 c0 l0 A c o r1 r2 _ EE.out.rd EE.out.cap HCL.out HCP.out HF.out).mono ?_; rintro e w1 ⟨v, rfl, hR, hb1⟩; have HB1 := Aside0.mk hb1; have HR1 := Aside0.mk hR; clear hb1 hR)
 go_ret
 exact ⟨rfl, HB1.out⟩
set_option maxHeartbeats 8000000 in
set_option maxRecDepth 100000 in
theorem FewestLate_score (x y : Int) (b : Nat) (A0 : Option Addr) (c0 : Nat) (l0 : List S57) (sc : List Int → Int) (w0 : World) (hE : IronEnv x y b A0 c0 l0 w0)
 (hf : ∀ o, Begun l0.length o → o.length = l0.length → ∃ kf r1 r2, impl_Iron_late.f kf x y l0 o = some (r1, r2) ∧ (r1.length : Int) = sc o) :
 ScoreOn 97 #[.pointer (some ⟨b, 0, none⟩), .pointer (some ⟨b + 1, 0, none⟩)] sc l0.length w0 := by
 intro W A c o hW hbg hlen hcap hcl
 have E := hE.below hW
 obtain ⟨kf, r1, r2, h1, h2⟩ := hf o hbg hlen
 show Calls Try.prog 97 #[.slice A o.length c, .pointer (some ⟨b, 0, none⟩), .pointer (some ⟨b + 1, 0, none⟩)] W _
 have e0 := E.k0
 have e1 := E.k1
 have el := E.kl
 have EE := Aside0.mk E
 have HCL := Aside0.mk hcl
 have HCP := Aside0.mk hcap
 clear hE hf hW hbg hlen hcl hcap E
 go_enter Try.func97, Try.ntmps97
 have HF := Aside0.mk h1
 have HS := Aside0.mk h2
 clear h1 h2
 go_wp2_with (first
  | (go_at_call 95; refine (impl_Iron_late.calls kf x y A0 c0 l0 A c o r1 r2 _ EE.out.rd EE.out.cap HCL.out HCP.out HF.out).mono ?_; rintro e w1 ⟨v, rfl, hR, hb1⟩; have HB1 := Aside0.mk hb1; have HR1 := Aside0.mk hR; clear hb1 hR; obtain ⟨Ao, co, eo⟩ := Kd.R_slice HR1.out; subst eo)
  | (go_at_call 98; refine (size_ints Ao r1.length co _).mono ?_; rintro e w2 ⟨rfl, hb2⟩; have HB2 := Aside0.mk (HB1.out.trans (hb2.mono HB1.out.size)); clear hb2))
 go_ret
 exact ⟨by rw [← HS.out]; rfl, HB2.out⟩
end Go.Proofs.Ythkccaclmodjiaa.I
end
section
namespace Go.Proofs.Ythkccaclmodjiaa.I
open Go.RowKit Go.Proofs.YthkccaclmodjiaaW.PrintWords Go.Proofs.YthkccaclmodjiaaW.PrintLast Go.Proofs.YthkccaclmodjiaaW.PrintMore
attribute [local go_sem] max2_int min2_int max_two min_two max_three min_three max_four min_four
set_option linter.unusedVariables false
set_option linter.unusedSimpArgs false
open Go.Sort Go.Shelf Go.Lib
def sureB (x y : Int) (l : List S57) : Bool := decide (wrap64 x = x ∧ 0 ≤ x ∧ x ≤ 60) && decide (wrap64 y = y ∧ 0 ≤ y ∧ y ≤ 60) && decide (l.length ≤ 8) && l.all (fun p => decide (wrap64 p.f0 = p.f0 ∧ wrap64 p.f1 = p.f1 ∧ wrap64 p.f2 = p.f2 ∧ 1 ≤ p.f0 ∧ p.f0 ≤ 3 ∧ 1 ≤ p.f1 ∧ p.f1 ≤ 60 ∧ 0 ≤ p.f2 ∧ p.f2 ≤ 1000))
theorem sureB_iff {x y : Int} {l : List S57} : sureB x y l = true ↔ (wrap64 x = x ∧ 0 ≤ x ∧ x ≤ 60) ∧ (wrap64 y = y ∧ 0 ≤ y ∧ y ≤ 60) ∧ l.length ≤ 8 ∧ Fine l := by
 unfold sureB Fine
 simp only [Bool.and_eq_true, decide_eq_true_eq, List.all_eq_true]
 constructor
 · rintro ⟨⟨⟨a, b⟩, c⟩, d⟩
   exact ⟨a, b, c, d⟩
 · rintro ⟨a, b, c, d⟩
   exact ⟨⟨⟨a, b⟩, c⟩, d⟩
def scLateness (x y : Int) (l : List S57) (o : List Int) : Int := lateSum l o (timesOf x y l 0 0 o) o.length
def scLate (x y : Int) (l : List S57) (o : List Int) : Int := ((lateList l o (timesOf x y l 0 0 o) o.length).length : Int)
theorem finish_begun {x y : Int} {l : List S57} (h : sureB x y l = true) {o : List Int} (hb : Begun l.length o) (hl : o.length = l.length) : Ev (fun k => impl_Iron_finish.f k x y l o) (timesOf x y l 0 0 o) := by
 obtain ⟨hx, hy, h8, hf⟩ := sureB_iff.mp h
 exact (finish_key x y hx hy l hf o (by omega) hb.range o 0 [] 0 0 rfl (by omega) rfl ⟨by omega, by omega⟩ ⟨by omega, by omega⟩).1
theorem lates_begun {x y : Int} {l : List S57} (h : sureB x y l = true) {o : List Int} (hb : Begun l.length o) (hl : o.length = l.length) : Lates l o (timesOf x y l 0 0 o) := by
 obtain ⟨hx, hy, h8, hf⟩ := sureB_iff.mp h
 refine ⟨hf, hl, by omega, timesOf_len _ _ _ _ _ _, hb.range, hb.nodup, fun z hz => ?_⟩
 have := timesOf_bd x y hx.2 hy.2 l hf o 0 0 hb.range ⟨by omega, by omega⟩ (by omega) z hz
 omega
def ironBy (sc : Int → Int → List S57 → List Int → Int) (k : Nat) (x y : Int) (l : List S57) : Option (List Int × Int × Int) := (impl_ironCode.f k x y l).bind fun c => (if c = 0 then (if sureB x y l = true then some ((bestOf (sc x y l) l.length).1, (bestOf (sc x y l) l.length).2, 0) else none) else some ([], 0, c))
theorem ironBy_mono (sc : Int → Int → List S57 → List Int → Int) (k : Nat) (x y : Int) (l : List S57) : LeO (ironBy sc k x y l) (ironBy sc (k + 1) x y l) := LeO.bind (impl_ironCode.mono x y l k) (fun _ => LeO.refl _)
theorem ironBy_some {sc : Int → Int → List S57 → List Int → Int} {k : Nat} {x y : Int} {l : List S57} {r1 : List Int} {r2 r3 : Int} (h : ironBy sc k x y l = some (r1, r2, r3)) :
 impl_ironCode.f k x y l = some r3 ∧ (r3 = 0 → sureB x y l = true) ∧ (ironing (sc x y l) l.length r3).1 = r1 ∧ (ironing (sc x y l) l.length r3).2 = r2 := by
 obtain ⟨c, h1, h2⟩ := Option.bind_eq_some_iff.mp h
 by_cases hc : c = 0
 · rw [if_pos hc] at h2
   by_cases hs : sureB x y l = true
   · rw [if_pos hs] at h2
     injection h2 with h2
     injection h2 with e1 e2
     injection e2 with e2 e3
     subst e1 e2 e3 hc
     exact ⟨h1, fun _ => hs, by rw [ironing, if_pos rfl], by rw [ironing, if_pos rfl]⟩
   · rw [if_neg hs] at h2
     cases h2
 · rw [if_neg hc] at h2
   injection h2 with h2
   injection h2 with e1 e2
   injection e2 with e2 e3
   subst e1 e2 e3
   exact ⟨h1, fun e => absurd e hc, by rw [ironing, if_neg hc], by rw [ironing, if_neg hc]⟩
theorem need_LeastLateness {x y : Int} {l0 : List S57} (hs : sureB x y l0 = true) {o : List Int} (hb : Begun l0.length o) (hl : o.length = l0.length) : ∃ kf r1, impl_Iron_late.f kf x y l0 o = some (r1, scLateness x y l0 o) := by
 obtain ⟨kf, hf⟩ := Ev.get (Ev.bind (finish_begun hs hb hl) (implLate_ev (lates_begun hs hb hl)) : Ev (fun k => impl_Iron_late.f k x y l0 o) _)
 exact ⟨kf, _, hf⟩
def impl_LeastLateness.f (k : Nat) (a0_0 : Int) (a0_1 : Int) (l1 : List S57) : Option (List Int × Int × Int) := ironBy scLateness k a0_0 a0_1 l1
theorem impl_LeastLateness.mono : ∀ a0 a1 a2 k, LeO (impl_LeastLateness.f k a0 a1 a2) (impl_LeastLateness.f (k + 1) a0 a1 a2) := fun a0 a1 a2 k => ironBy_mono _ k a0 a1 a2
set_option maxHeartbeats 8000000 in
set_option maxRecDepth 100000 in
theorem impl_LeastLateness.calls (k : Nat) (x : Int) (y : Int) (A0 : Option Addr) (c0 : Nat) (l0 : List (S57)) (r1 : List Int) (r2 : Int) (r3 : Int) (w : World) (hr1 : Kd.C k57 w A0 l0.length l0) (hc1 : l0.length ≤ c0) (h : impl_LeastLateness.f k x y l0 = some (r1, r2, r3)) :
 Calls Try.prog 55 #[.agg #[.int .i8 x, .int .i8 y], .slice A0 l0.length c0] w fun e w' => ∃ v0_ : Value, e = .returned (.tuple #[v0_, .int .i64 r2, .int .i64 r3]) ∧ Kd.R (Kd.int .i64) 2 w' w.heap.size (fun _ => True) v0_ r1 ∧ Below w.heap.size w w' := by
 obtain ⟨h1, h2, h3, h4⟩ := ironBy_some h
 obtain ⟨W0, hW0⟩ : ∃ W0, (w.alloc (.cells #[.int .i8 x, .int .i8 y] 27)).alloc (.cells #[.slice A0 l0.length c0] 33) = W0 := ⟨_, rfl⟩
 have hB0 : Below w.heap.size w W0 := by rw [← hW0]; exact ((Below.refl _ w).alloc (Nat.le_refl _) _).alloc (by simp) _
 have hE : IronEnv x y w.heap.size A0 c0 l0 W0 := by
  refine ⟨?_, ?_, ?_, ?_, Kd.C_below hr1 hB0, hc1⟩
  · rw [← hW0]; simp [go_sem]
  · rw [← hW0]; simp [go_sem]
  · rw [← hW0]; simp [go_sem]
  · rw [← hW0]; simp
 have e0 := hE.k0
 have e1 := hE.k1
 have el := hE.kl
 have esg : ∀ args w, (callFunc 96 args).run Try.prog w = .ok (.enter 96 args) w := enters_of Try.func96 (by kernel_rfl) rfl
 have HC := Aside0.mk (bestIroning_calls k x y A0 c0 l0 96 #[.pointer (some ⟨w.heap.size, 0, none⟩), .pointer (some ⟨w.heap.size + 1, 0, none⟩)] (scLateness x y l0) r3 W0 (Kd.C_below hr1 hB0) hc1 h1 (fun hc => (sureB_iff.mp (h2 hc)).2.2.1) esg (fun hc => LeastLateness_score x y w.heap.size A0 c0 l0 (scLateness x y l0) W0 hE (fun o hb hl => need_LeastLateness (h2 hc) hb hl)))
 rw [h3, h4] at HC
 have HB0 := Aside0.mk hB0
 clear h h1 h2 h3 h4 hE hB0 hr1 hc1 esg
 go_enter Try.func55, Try.ntmps55
 go_wp2_with (go_at_call 80; refine HC.out.mono ?_; rintro e w2 ⟨v, rfl, hR, hb2⟩; have HR2 := Aside0.mk (Kd.R_lower hR HB0.out.size); have HB2 := Aside0.mk (HB0.out.trans (hb2.mono HB0.out.size)); clear hR hb2)
 go_ret3
 exact ⟨v, rfl, HR2.out, HB2.out⟩
theorem need_FewestLate {x y : Int} {l0 : List S57} (hs : sureB x y l0 = true) {o : List Int} (hb : Begun l0.length o) (hl : o.length = l0.length) : ∃ kf r1 r2, impl_Iron_late.f kf x y l0 o = some (r1, r2) ∧ (r1.length : Int) = scLate x y l0 o := by
 obtain ⟨kf, hf⟩ := Ev.get (Ev.bind (finish_begun hs hb hl) (implLate_ev (lates_begun hs hb hl)) : Ev (fun k => impl_Iron_late.f k x y l0 o) _)
 exact ⟨kf, _, _, hf, by rw [srt_len]; rfl⟩
def impl_FewestLate.f (k : Nat) (a0_0 : Int) (a0_1 : Int) (l1 : List S57) : Option (List Int × Int × Int) := ironBy scLate k a0_0 a0_1 l1
theorem impl_FewestLate.mono : ∀ a0 a1 a2 k, LeO (impl_FewestLate.f k a0 a1 a2) (impl_FewestLate.f (k + 1) a0 a1 a2) := fun a0 a1 a2 k => ironBy_mono _ k a0 a1 a2
set_option maxHeartbeats 8000000 in
set_option maxRecDepth 100000 in
theorem impl_FewestLate.calls (k : Nat) (x : Int) (y : Int) (A0 : Option Addr) (c0 : Nat) (l0 : List (S57)) (r1 : List Int) (r2 : Int) (r3 : Int) (w : World) (hr1 : Kd.C k57 w A0 l0.length l0) (hc1 : l0.length ≤ c0) (h : impl_FewestLate.f k x y l0 = some (r1, r2, r3)) :
 Calls Try.prog 57 #[.agg #[.int .i8 x, .int .i8 y], .slice A0 l0.length c0] w fun e w' => ∃ v0_ : Value, e = .returned (.tuple #[v0_, .int .i64 r2, .int .i64 r3]) ∧ Kd.R (Kd.int .i64) 2 w' w.heap.size (fun _ => True) v0_ r1 ∧ Below w.heap.size w w' := by
 obtain ⟨h1, h2, h3, h4⟩ := ironBy_some h
 obtain ⟨W0, hW0⟩ : ∃ W0, (w.alloc (.cells #[.int .i8 x, .int .i8 y] 27)).alloc (.cells #[.slice A0 l0.length c0] 33) = W0 := ⟨_, rfl⟩
 have hB0 : Below w.heap.size w W0 := by rw [← hW0]; exact ((Below.refl _ w).alloc (Nat.le_refl _) _).alloc (by simp) _
 have hE : IronEnv x y w.heap.size A0 c0 l0 W0 := by
  refine ⟨?_, ?_, ?_, ?_, Kd.C_below hr1 hB0, hc1⟩
  · rw [← hW0]; simp [go_sem]
  · rw [← hW0]; simp [go_sem]
  · rw [← hW0]; simp [go_sem]
  · rw [← hW0]; simp
 have e0 := hE.k0
 have e1 := hE.k1
 have el := hE.kl
 have esg : ∀ args w, (callFunc 97 args).run Try.prog w = .ok (.enter 97 args) w := enters_of Try.func97 (by kernel_rfl) rfl
 have HC := Aside0.mk (bestIroning_calls k x y A0 c0 l0 97 #[.pointer (some ⟨w.heap.size, 0, none⟩), .pointer (some ⟨w.heap.size + 1, 0, none⟩)] (scLate x y l0) r3 W0 (Kd.C_below hr1 hB0) hc1 h1 (fun hc => (sureB_iff.mp (h2 hc)).2.2.1) esg (fun hc => FewestLate_score x y w.heap.size A0 c0 l0 (scLate x y l0) W0 hE (fun o hb hl => need_FewestLate (h2 hc) hb hl)))
 rw [h3, h4] at HC
 have HB0 := Aside0.mk hB0
 clear h h1 h2 h3 h4 hE hB0 hr1 hc1 esg
 go_enter Try.func57, Try.ntmps57
 go_wp2_with (go_at_call 80; refine HC.out.mono ?_; rintro e w2 ⟨v, rfl, hR, hb2⟩; have HR2 := Aside0.mk (Kd.R_lower hR HB0.out.size); have HB2 := Aside0.mk (HB0.out.trans (hb2.mono HB0.out.size)); clear hR hb2)
 go_ret3
 exact ⟨v, rfl, HR2.out, HB2.out⟩
end Go.Proofs.Ythkccaclmodjiaa.I
end
