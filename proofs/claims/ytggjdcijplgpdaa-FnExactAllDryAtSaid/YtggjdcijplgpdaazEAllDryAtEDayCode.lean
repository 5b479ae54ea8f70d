import Derived.Test.YtggjdcijplgpdaazEAllDryAtD0
import Derived.Test.YtggjdcijplgpdaazEAllDryAtD17
import Derived.Test.YtggjdcijplgpdaazEAllDryAtD3
import Derived.Test.YtggjdcijplgpdaazEAllDryAtEAreWithin
import Derived.Test.YtggjdcijplgpdaazEAllDryAtEDayBase
import Derived.Test.YtggjdcijplgpdaazEAllDryAtEPredWash
import Derived.Test.YtggjdcijplgpdaazEAllDryAtEPredWeather
import Derived.Shelf.Abstract
namespace Go.Proofs.Ytggjdcijplgpdaa.D
open Go.RowKit Go.Proofs.YtggjdcijplgpdaaW.PrintWords Go.Proofs.YtggjdcijplgpdaaW.PrintLast Go.Proofs.YtggjdcijplgpdaaW.PrintMore
attribute [local go_sem] max2_int min2_int max_two min_two max_three min_three max_four min_four
set_option linter.unusedVariables false
set_option linter.unusedSimpArgs false
def okHour (x : S74) : Bool := inB 0 9 (wrap64 x.f0) && inB 0 9 (wrap64 x.f1) && inB 0 9 (wrap64 x.f2)
def okWash (x : S128) : Bool := inB 0 1000 (wrap64 x.f0) && inB 1 9 (wrap64 x.f1)
theorem isWeather_f (x : S74) : impl_isWeather.f x.f0 x.f1 x.f2 = some (okHour x) := by
  unfold impl_isWeather.f impl_areWithin.f okHour
  generalize wrap64 x.f0 = a
  generalize wrap64 x.f1 = b
  generalize wrap64 x.f2 = c
  simp only [List.any_cons, List.any_nil, Bool.or_false, Option.bind_some]
  cases inB 0 9 a <;> cases inB 0 9 b <;> cases inB 0 9 c <;> rfl
theorem validWash_f (x : S128) : impl_ValidWash.f x.f0 x.f1 = some (okWash x) := by
  unfold impl_ValidWash.f okWash
  rw [within_B, within_B]
  generalize inB 0 1000 (wrap64 x.f0) = a
  generalize inB 1 9 (wrap64 x.f1) = b
  cases a <;> cases b <;> rfl
set_option maxHeartbeats 8000000 in
set_option maxRecDepth 100000 in
theorem validDay_pred (x : S74) (W : World) :
    Calls Try.prog 154 #[.agg #[.int .i8 x.f0, .int .i8 x.f1, .int .i8 x.f2]] W fun e w' => e = .returned (.bool (!okHour x)) ∧ Below W.heap.size W w' := by
  have hu74 := Try.underlying74
  have hv := Aside0.mk (isWeather_f x)
  generalize okHour x = r at hv ⊢
  cases r with
  | true =>
    go_enter Try.func154, Try.ntmps154
    go_wp2_with (go_at_call 155; (with_reducible refine (impl_isWeather.calls x.f0 x.f1 x.f2 true _ hv.out).mono ?_); rintro e w' ⟨rfl, hb'⟩)
    go_ret
    exact ⟨rfl, below_step ((Below.refl _ _).alloc (Nat.le_refl _) _) hb'⟩
  | false =>
    go_enter Try.func154, Try.ntmps154
    go_wp2_with (go_at_call 155; (with_reducible refine (impl_isWeather.calls x.f0 x.f1 x.f2 false _ hv.out).mono ?_); rintro e w' ⟨rfl, hb'⟩)
    go_ret
    exact ⟨rfl, below_step ((Below.refl _ _).alloc (Nat.le_refl _) _) hb'⟩
set_option maxHeartbeats 8000000 in
set_option maxRecDepth 100000 in
theorem dayCode_pred (x : S128) (W : World) :
    Calls Try.prog 141 #[.agg #[.int .i16 x.f0, .int .i8 x.f1]] W fun e w' => e = .returned (.bool (!okWash x)) ∧ Below W.heap.size W w' := by
  have hu128 := Try.underlying128
  have hv := Aside0.mk (validWash_f x)
  generalize okWash x = r at hv ⊢
  cases r with
  | true =>
    go_enter Try.func141, Try.ntmps141
    go_wp2_with (go_at_call 142; (with_reducible refine (impl_ValidWash.calls x.f0 x.f1 true _ hv.out).mono ?_); rintro e w' ⟨rfl, hb'⟩)
    go_ret
    exact ⟨rfl, below_step ((Below.refl _ _).alloc (Nat.le_refl _) _) hb'⟩
  | false =>
    go_enter Try.func141, Try.ntmps141
    go_wp2_with (go_at_call 142; (with_reducible refine (impl_ValidWash.calls x.f0 x.f1 false _ hv.out).mono ?_); rintro e w' ⟨rfl, hb'⟩)
    go_ret
    exact ⟨rfl, below_step ((Below.refl _ _).alloc (Nat.le_refl _) _) hb'⟩
set_option maxHeartbeats 8000000 in
set_option maxRecDepth 100000 in
theorem validDay_calls (l0 : List S74) (w : World) (hc0 : l0.length = 24) (r : Bool) (hr : l0.any (fun x => !okHour x) = r) :
    Calls Try.prog 139 #[.agg (dayA l0)] w fun e w' => e = .returned (.bool (!r)) ∧ Below w.heap.size w w' := by
  have HC0 := Aside0.mk hc0
  have eg : ∀ args w, (callFunc 154 args).run Try.prog w = .ok (.enter 154 args) w := enters_of Try.func154 (by kernel_rfl) rfl
  have HC := Aside0.mk (fun (W : World) (AD : Addr) (hC : Kd.C k74 W (some AD) l0.length l0) => containsFunc_weather 154 #[] eg (fun x => !okHour x) (some AD) 24 l0 W hC (fun W' x _ hb' => (validDay_pred x W').mono fun e w' ⟨he, hd⟩ => ⟨he, below_step hb' hd⟩))
  rw [hr, hc0] at HC
  clear hc0 hr eg
  cases r with
  | true =>
    have HC' := HC
    clear HC
    have HC := HC'
    clear HC'
    go_enter Try.func139, Try.ntmps139
    go_wp2_with (first | ((with_reducible refine gate_dst (N := 1) rfl ?_); refine box_event ?hg (N := 1) ?hd (cs := dayA l0) (t := 76) ?hr ?_; (case hd => rfl); (case hg => rfl); (case hr => first | (go_simp; done) | (go_simp; rfl)); intro gbD hgD W1 hboxD hbD; clear hgD; obtain ⟨AD, hAD⟩ : ∃ AD : Addr, AD = ⟨gbD, 0, none⟩ := ⟨_, rfl⟩; rw [← hAD]; have HAD := Aside0.mk hAD; clear hAD; have HR0 := Aside0.mk (show Kd.C k74 W1 (some AD) l0.length l0 from (by rw [HAD.out]; exact day_C hboxD HC0.out)); have BKD := Aside0.mk hboxD; have HW := Aside0.mk hbD; clear hboxD hbD; have HB := Aside0.mk (Below.refl W1.heap.size W1)) | (go_at_call 153; (with_reducible refine (HC.out _ AD (by have := Kd.C_below HR0.out (by repeat (first | (with_reducible first | exact HB.out | apply below_alloc | apply pw_below_drewN | apply below_drew1) | exact HB.out)); rw [HC0.out] at this; exact this)).mono ?_); rintro e w' ⟨rfl, hb⟩; have n0_ := Aside0.mk (below_step (by repeat (first | (with_reducible first | exact HB.out | apply below_alloc | apply pw_below_drewN | apply below_drew1) | exact HB.out)) hb); clear HB; have HB := n0_; clear n0_; clear hb))
    go_ret
    exact low_b HW.out ⟨rfl, HB.out⟩
  | false =>
    have HC' := HC
    clear HC
    have HC := HC'
    clear HC'
    go_enter Try.func139, Try.ntmps139
    go_wp2_with (first | ((with_reducible refine gate_dst (N := 1) rfl ?_); refine box_event ?hg (N := 1) ?hd (cs := dayA l0) (t := 76) ?hr ?_; (case hd => rfl); (case hg => rfl); (case hr => first | (go_simp; done) | (go_simp; rfl)); intro gbD hgD W1 hboxD hbD; clear hgD; obtain ⟨AD, hAD⟩ : ∃ AD : Addr, AD = ⟨gbD, 0, none⟩ := ⟨_, rfl⟩; rw [← hAD]; have HAD := Aside0.mk hAD; clear hAD; have HR0 := Aside0.mk (show Kd.C k74 W1 (some AD) l0.length l0 from (by rw [HAD.out]; exact day_C hboxD HC0.out)); have BKD := Aside0.mk hboxD; have HW := Aside0.mk hbD; clear hboxD hbD; have HB := Aside0.mk (Below.refl W1.heap.size W1)) | (go_at_call 153; (with_reducible refine (HC.out _ AD (by have := Kd.C_below HR0.out (by repeat (first | (with_reducible first | exact HB.out | apply below_alloc | apply pw_below_drewN | apply below_drew1) | exact HB.out)); rw [HC0.out] at this; exact this)).mono ?_); rintro e w' ⟨rfl, hb⟩; have n0_ := Aside0.mk (below_step (by repeat (first | (with_reducible first | exact HB.out | apply below_alloc | apply pw_below_drewN | apply below_drew1) | exact HB.out)) hb); clear HB; have HB := n0_; clear n0_; clear hb))
    go_ret
    exact low_b HW.out ⟨rfl, HB.out⟩
def codeDay (l0 : List S74) (l1 : List S128) (a2 a3 : Int) : Int := if l0.any (fun x => !okHour x) = true then 1 else if l1.any (fun x => !okWash x) = true then 1 else if inB 0 a3 a2 = true then (if a3 ≤ 24 then 0 else 2) else 2
def impl_dayCode.f (k : Nat) (l0 : List S74) (l1 : List S128) (a2 : Int) (a3 : Int) : Option Int := some (codeDay l0 l1 a2 a3)
theorem impl_dayCode.mono : ∀ a0 a1 a2 a3 k, LeO (impl_dayCode.f k a0 a1 a2 a3) (impl_dayCode.f (k + 1) a0 a1 a2 a3) := fun _ _ _ _ _ => LeO.refl _
set_option maxHeartbeats 8000000 in
set_option maxRecDepth 100000 in
theorem impl_dayCode.calls (k : Nat) (l0 : List S74) (A1 : Option Addr) (c1 : Nat) (l1 : List S128) (a2 a3 : Int) (r : Int) (w : World) (hc0 : l0.length = 24) (hr1 : Kd.C k128 w A1 l1.length l1) (hc1 : l1.length ≤ c1) (h : impl_dayCode.f k l0 l1 a2 a3 = some r) :
    Calls Try.prog 108 #[.agg (dayA l0), .slice A1 l1.length c1, .int .i64 a2, .int .i64 a3] w fun e w' => e = .returned (.int .i64 r) ∧ Below w.heap.size w w' := by
  unfold impl_dayCode.f codeDay at h
  obtain rfl := Option.some.inj h
  clear h hc1
  have HC0 := Aside0.mk hc0
  have HR1 := Aside0.mk hr1
  have eg : ∀ args w, (callFunc 141 args).run Try.prog w = .ok (.enter 141 args) w := enters_of Try.func141 (by kernel_rfl) rfl
  have HP := Aside0.mk (fun (W : World) (hC : Kd.C k128 W A1 l1.length l1) => containsFunc_wash 141 #[] eg (fun x => !okWash x) A1 c1 l1 W hC (fun W' x _ hb' => (dayCode_pred x W').mono fun e w' ⟨he, hd⟩ => ⟨he, below_step hb' hd⟩))
  have HV := Aside0.mk (fun (W : World) => validDay_calls l0 W hc0 _ rfl)
  have HN := Aside0.mk (fun (W : World) => impl_within.calls a2 0 a3 _ W (within_B a2 0 a3))
  clear hc0 hr1 eg
  generalize l0.any (fun x => !okHour x) = p at HV ⊢
  generalize l1.any (fun x => !okWash x) = q at HP ⊢
  generalize inB 0 a3 a2 = u at HN ⊢
  cases p with
  | true =>
    rw [if_pos rfl]
    go_enter Try.func108, Try.ntmps108
    go_wp2_with (first | ((with_reducible refine gate_dst (N := 4) rfl ?_); refine box_event ?hg (N := 4) ?hd (cs := dayA l0) (t := 76) ?hr ?_; (case hd => rfl); (case hg => rfl); (case hr => first | (go_simp; done) | (go_simp; rfl)); intro gbD hgD W1 hboxD hbD; clear hgD; obtain ⟨AD, hAD⟩ : ∃ AD : Addr, AD = ⟨gbD, 0, none⟩ := ⟨_, rfl⟩; rw [← hAD]; have HAD := Aside0.mk hAD; clear hAD; have HR0 := Aside0.mk (show Kd.C k74 W1 (some AD) l0.length l0 from (by rw [HAD.out]; exact day_C hboxD HC0.out)); have BKD := Aside0.mk hboxD; have HW := Aside0.mk hbD; have m1_ := Aside0.mk (Kd.C_below HR1.out hbD); clear HR1; have HR1 := m1_; clear m1_; clear hboxD hbD; have HB := Aside0.mk (Below.refl W1.heap.size W1)) | ((with_reducible refine gate_dst (N := 9) rfl ?_); refine wpList_load_row rfl 76 _ rfl gbD ?hx 76 (dayA l0) (0, 0) _ ?hg Try.underlying76 rfl ?hi ?_; (case hx => (show Value.pointer (some AD) = _; rw [HAD.out])); (case hg => exact day_still BKD.out (by repeat (first | (with_reducible first | exact HB.out | apply below_alloc | apply pw_below_drewN | apply below_drew1) | exact HB.out))); (case hi => exact day_info HC0.out)) | (go_at_call 139; (with_reducible refine (HV.out _).mono ?_); rintro e w' ⟨rfl, hb⟩; have n0_ := Aside0.mk (below_step (by repeat (first | (with_reducible first | exact HB.out | apply below_alloc | apply pw_below_drewN | apply below_drew1) | exact HB.out)) hb); clear HB; have HB := n0_; clear n0_; clear hb) | (go_at_call 140; (with_reducible refine (HP.out _ (by have := Kd.C_below HR1.out (by repeat (first | (with_reducible first | exact HB.out | apply below_alloc | apply pw_below_drewN | apply below_drew1) | exact HB.out)); exact this)).mono ?_); rintro e w' ⟨rfl, hb⟩; have n0_ := Aside0.mk (below_step (by repeat (first | (with_reducible first | exact HB.out | apply below_alloc | apply pw_below_drewN | apply below_drew1) | exact HB.out)) hb); clear HB; have HB := n0_; clear n0_; clear hb) | (go_at_call 72; (with_reducible refine (HN.out _).mono ?_); rintro e w' ⟨rfl, ⟨nd, rfl⟩⟩))
    go_ret
    exact low_b HW.out ⟨rfl, HB.out⟩
  | false =>
    rw [if_neg (by decide)]
    cases q with
    | true =>
      rw [if_pos rfl]
      go_enter Try.func108, Try.ntmps108
      go_wp2_with (first | ((with_reducible refine gate_dst (N := 4) rfl ?_); refine box_event ?hg (N := 4) ?hd (cs := dayA l0) (t := 76) ?hr ?_; (case hd => rfl); (case hg => rfl); (case hr => first | (go_simp; done) | (go_simp; rfl)); intro gbD hgD W1 hboxD hbD; clear hgD; obtain ⟨AD, hAD⟩ : ∃ AD : Addr, AD = ⟨gbD, 0, none⟩ := ⟨_, rfl⟩; rw [← hAD]; have HAD := Aside0.mk hAD; clear hAD; have HR0 := Aside0.mk (show Kd.C k74 W1 (some AD) l0.length l0 from (by rw [HAD.out]; exact day_C hboxD HC0.out)); have BKD := Aside0.mk hboxD; have HW := Aside0.mk hbD; have m1_ := Aside0.mk (Kd.C_below HR1.out hbD); clear HR1; have HR1 := m1_; clear m1_; clear hboxD hbD; have HB := Aside0.mk (Below.refl W1.heap.size W1)) | ((with_reducible refine gate_dst (N := 9) rfl ?_); refine wpList_load_row rfl 76 _ rfl gbD ?hx 76 (dayA l0) (0, 0) _ ?hg Try.underlying76 rfl ?hi ?_; (case hx => (show Value.pointer (some AD) = _; rw [HAD.out])); (case hg => exact day_still BKD.out (by repeat (first | (with_reducible first | exact HB.out | apply below_alloc | apply pw_below_drewN | apply below_drew1) | exact HB.out))); (case hi => exact day_info HC0.out)) | (go_at_call 139; (with_reducible refine (HV.out _).mono ?_); rintro e w' ⟨rfl, hb⟩; have n0_ := Aside0.mk (below_step (by repeat (first | (with_reducible first | exact HB.out | apply below_alloc | apply pw_below_drewN | apply below_drew1) | exact HB.out)) hb); clear HB; have HB := n0_; clear n0_; clear hb) | (go_at_call 140; (with_reducible refine (HP.out _ (by have := Kd.C_below HR1.out (by repeat (first | (with_reducible first | exact HB.out | apply below_alloc | apply pw_below_drewN | apply below_drew1) | exact HB.out)); exact this)).mono ?_); rintro e w' ⟨rfl, hb⟩; have n0_ := Aside0.mk (below_step (by repeat (first | (with_reducible first | exact HB.out | apply below_alloc | apply pw_below_drewN | apply below_drew1) | exact HB.out)) hb); clear HB; have HB := n0_; clear n0_; clear hb) | (go_at_call 72; (with_reducible refine (HN.out _).mono ?_); rintro e w' ⟨rfl, ⟨nd, rfl⟩⟩))
      go_ret
      exact low_b HW.out ⟨rfl, HB.out⟩
    | false =>
      rw [if_neg (by decide)]
      cases u with
      | false =>
        rw [if_neg (by decide)]
        go_enter Try.func108, Try.ntmps108
        go_wp2_with (first | ((with_reducible refine gate_dst (N := 4) rfl ?_); refine box_event ?hg (N := 4) ?hd (cs := dayA l0) (t := 76) ?hr ?_; (case hd => rfl); (case hg => rfl); (case hr => first | (go_simp; done) | (go_simp; rfl)); intro gbD hgD W1 hboxD hbD; clear hgD; obtain ⟨AD, hAD⟩ : ∃ AD : Addr, AD = ⟨gbD, 0, none⟩ := ⟨_, rfl⟩; rw [← hAD]; have HAD := Aside0.mk hAD; clear hAD; have HR0 := Aside0.mk (show Kd.C k74 W1 (some AD) l0.length l0 from (by rw [HAD.out]; exact day_C hboxD HC0.out)); have BKD := Aside0.mk hboxD; have HW := Aside0.mk hbD; have m1_ := Aside0.mk (Kd.C_below HR1.out hbD); clear HR1; have HR1 := m1_; clear m1_; clear hboxD hbD; have HB := Aside0.mk (Below.refl W1.heap.size W1)) | ((with_reducible refine gate_dst (N := 9) rfl ?_); refine wpList_load_row rfl 76 _ rfl gbD ?hx 76 (dayA l0) (0, 0) _ ?hg Try.underlying76 rfl ?hi ?_; (case hx => (show Value.pointer (some AD) = _; rw [HAD.out])); (case hg => exact day_still BKD.out (by repeat (first | (with_reducible first | exact HB.out | apply below_alloc | apply pw_below_drewN | apply below_drew1) | exact HB.out))); (case hi => exact day_info HC0.out)) | (go_at_call 139; (with_reducible refine (HV.out _).mono ?_); rintro e w' ⟨rfl, hb⟩; have n0_ := Aside0.mk (below_step (by repeat (first | (with_reducible first | exact HB.out | apply below_alloc | apply pw_below_drewN | apply below_drew1) | exact HB.out)) hb); clear HB; have HB := n0_; clear n0_; clear hb) | (go_at_call 140; (with_reducible refine (HP.out _ (by have := Kd.C_below HR1.out (by repeat (first | (with_reducible first | exact HB.out | apply below_alloc | apply pw_below_drewN | apply below_drew1) | exact HB.out)); exact this)).mono ?_); rintro e w' ⟨rfl, hb⟩; have n0_ := Aside0.mk (below_step (by repeat (first | (with_reducible first | exact HB.out | apply below_alloc | apply pw_below_drewN | apply below_drew1) | exact HB.out)) hb); clear HB; have HB := n0_; clear n0_; clear hb) | (go_at_call 72; (with_reducible refine (HN.out _).mono ?_); rintro e w' ⟨rfl, ⟨nd, rfl⟩⟩) | (go_at_call 62; (with_reducible refine (impl_unless.calls false 2 2 _ rfl).mono ?_); rintro e w' ⟨rfl, ⟨nd, rfl⟩⟩))
        go_ret
        exact low_b HW.out ⟨rfl, (by repeat (first | (with_reducible first | exact HB.out | apply below_alloc | apply pw_below_drewN | apply below_drew1) | exact HB.out))⟩
      | true =>
        rw [if_pos rfl]
        by_cases c : a3 ≤ 24
        · rw [if_pos c]
          have c1 : decide (a3 ≤ 24) = true := decide_eq_true c
          clear c
          go_enter Try.func108, Try.ntmps108
          go_wp2_with (first | ((with_reducible refine gate_dst (N := 4) rfl ?_); refine box_event ?hg (N := 4) ?hd (cs := dayA l0) (t := 76) ?hr ?_; (case hd => rfl); (case hg => rfl); (case hr => first | (go_simp; done) | (go_simp; rfl)); intro gbD hgD W1 hboxD hbD; clear hgD; obtain ⟨AD, hAD⟩ : ∃ AD : Addr, AD = ⟨gbD, 0, none⟩ := ⟨_, rfl⟩; rw [← hAD]; have HAD := Aside0.mk hAD; clear hAD; have HR0 := Aside0.mk (show Kd.C k74 W1 (some AD) l0.length l0 from (by rw [HAD.out]; exact day_C hboxD HC0.out)); have BKD := Aside0.mk hboxD; have HW := Aside0.mk hbD; have m1_ := Aside0.mk (Kd.C_below HR1.out hbD); clear HR1; have HR1 := m1_; clear m1_; clear hboxD hbD; have HB := Aside0.mk (Below.refl W1.heap.size W1)) | ((with_reducible refine gate_dst (N := 9) rfl ?_); refine wpList_load_row rfl 76 _ rfl gbD ?hx 76 (dayA l0) (0, 0) _ ?hg Try.underlying76 rfl ?hi ?_; (case hx => (show Value.pointer (some AD) = _; rw [HAD.out])); (case hg => exact day_still BKD.out (by repeat (first | (with_reducible first | exact HB.out | apply below_alloc | apply pw_below_drewN | apply below_drew1) | exact HB.out))); (case hi => exact day_info HC0.out)) | (go_at_call 139; (with_reducible refine (HV.out _).mono ?_); rintro e w' ⟨rfl, hb⟩; have n0_ := Aside0.mk (below_step (by repeat (first | (with_reducible first | exact HB.out | apply below_alloc | apply pw_below_drewN | apply below_drew1) | exact HB.out)) hb); clear HB; have HB := n0_; clear n0_; clear hb) | (go_at_call 140; (with_reducible refine (HP.out _ (by have := Kd.C_below HR1.out (by repeat (first | (with_reducible first | exact HB.out | apply below_alloc | apply pw_below_drewN | apply below_drew1) | exact HB.out)); exact this)).mono ?_); rintro e w' ⟨rfl, hb⟩; have n0_ := Aside0.mk (below_step (by repeat (first | (with_reducible first | exact HB.out | apply below_alloc | apply pw_below_drewN | apply below_drew1) | exact HB.out)) hb); clear HB; have HB := n0_; clear n0_; clear hb) | (go_at_call 72; (with_reducible refine (HN.out _).mono ?_); rintro e w' ⟨rfl, ⟨nd, rfl⟩⟩) | (go_at_call 62; (with_reducible refine (impl_unless.calls true 2 0 _ rfl).mono ?_); rintro e w' ⟨rfl, ⟨nd, rfl⟩⟩))
          go_ret
          exact low_b HW.out ⟨rfl, (by repeat (first | (with_reducible first | exact HB.out | apply below_alloc | apply pw_below_drewN | apply below_drew1) | exact HB.out))⟩
        · rw [if_neg c]
          have c1 : decide (a3 ≤ 24) = false := decide_eq_false c
          clear c
          go_enter Try.func108, Try.ntmps108
          go_wp2_with (first | ((with_reducible refine gate_dst (N := 4) rfl ?_); refine box_event ?hg (N := 4) ?hd (cs := dayA l0) (t := 76) ?hr ?_; (case hd => rfl); (case hg => rfl); (case hr => first | (go_simp; done) | (go_simp; rfl)); intro gbD hgD W1 hboxD hbD; clear hgD; obtain ⟨AD, hAD⟩ : ∃ AD : Addr, AD = ⟨gbD, 0, none⟩ := ⟨_, rfl⟩; rw [← hAD]; have HAD := Aside0.mk hAD; clear hAD; have HR0 := Aside0.mk (show Kd.C k74 W1 (some AD) l0.length l0 from (by rw [HAD.out]; exact day_C hboxD HC0.out)); have BKD := Aside0.mk hboxD; have HW := Aside0.mk hbD; have m1_ := Aside0.mk (Kd.C_below HR1.out hbD); clear HR1; have HR1 := m1_; clear m1_; clear hboxD hbD; have HB := Aside0.mk (Below.refl W1.heap.size W1)) | ((with_reducible refine gate_dst (N := 9) rfl ?_); refine wpList_load_row rfl 76 _ rfl gbD ?hx 76 (dayA l0) (0, 0) _ ?hg Try.underlying76 rfl ?hi ?_; (case hx => (show Value.pointer (some AD) = _; rw [HAD.out])); (case hg => exact day_still BKD.out (by repeat (first | (with_reducible first | exact HB.out | apply below_alloc | apply pw_below_drewN | apply below_drew1) | exact HB.out))); (case hi => exact day_info HC0.out)) | (go_at_call 139; (with_reducible refine (HV.out _).mono ?_); rintro e w' ⟨rfl, hb⟩; have n0_ := Aside0.mk (below_step (by repeat (first | (with_reducible first | exact HB.out | apply below_alloc | apply pw_below_drewN | apply below_drew1) | exact HB.out)) hb); clear HB; have HB := n0_; clear n0_; clear hb) | (go_at_call 140; (with_reducible refine (HP.out _ (by have := Kd.C_below HR1.out (by repeat (first | (with_reducible first | exact HB.out | apply below_alloc | apply pw_below_drewN | apply below_drew1) | exact HB.out)); exact this)).mono ?_); rintro e w' ⟨rfl, hb⟩; have n0_ := Aside0.mk (below_step (by repeat (first | (with_reducible first | exact HB.out | apply below_alloc | apply pw_below_drewN | apply below_drew1) | exact HB.out)) hb); clear HB; have HB := n0_; clear n0_; clear hb) | (go_at_call 72; (with_reducible refine (HN.out _).mono ?_); rintro e w' ⟨rfl, ⟨nd, rfl⟩⟩) | (go_at_call 62; (with_reducible refine (impl_unless.calls false 2 2 _ rfl).mono ?_); rintro e w' ⟨rfl, ⟨nd, rfl⟩⟩))
          go_ret
          exact low_b HW.out ⟨rfl, (by repeat (first | (with_reducible first | exact HB.out | apply below_alloc | apply pw_below_drewN | apply below_drew1) | exact HB.out))⟩
end Go.Proofs.Ytggjdcijplgpdaa.D
