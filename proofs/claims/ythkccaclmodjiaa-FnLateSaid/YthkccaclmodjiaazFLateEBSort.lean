import Derived.Test.YthkccaclmodjiaazFLateELayI
import Derived.Test.YthkccaclmodjiaazFLateEBTwo
import Derived.Test.YthkccaclmodjiaazFLateEIron2
import Derived.Test.YthkccaclmodjiaazFLateEChoose
import Derived.Test.YthkccaclmodjiaazFLateELayS
import Derived.Test.YthkccaclmodjiaazFLateI0
import Derived.Test.YthkccaclmodjiaazFLateEBTime
import Derived.Test.YthkccaclmodjiaazFLateI30
import Derived.Test.YthkccaclmodjiaazFLateI31
import Derived.Test.YthkccaclmodjiaazFLateI32
import Derived.Test.YthkccaclmodjiaazFLateESortLst
import Derived.Test.YthkccaclmodjiaazFLateEBLem1
import Derived.Test.YthkccaclmodjiaazFLateEOrders2
import Derived.Test.YthkccaclmodjiaazFLateELayC
import Derived.Test.YthkccaclmodjiaazFLateI12
import Derived.Test.YthkccaclmodjiaazFLateI13
section
namespace Go.Proofs.Ythkccaclmodjiaa.I
open Go.RowKit Go.Proofs.YthkccaclmodjiaaW.PrintWords Go.Proofs.YthkccaclmodjiaaW.PrintLast Go.Proofs.YthkccaclmodjiaaW.PrintMore
attribute [local go_sem] max2_int min2_int max_two min_two max_three min_three max_four min_four
set_option linter.unusedVariables false
set_option linter.unusedSimpArgs false
theorem search_pair (sc : List Int → Int) (n : Nat) : ∀ (d : Nat) (l : List Int) (st : List Int × Int), Begun n l → l.length + d = n → searchOf sc n d l st = st ∨ (Begun n (searchOf sc n d l st).1 ∧ (searchOf sc n d l st).1.length = n ∧ (searchOf sc n d l st).2 = sc (searchOf sc n d l st).1) := by
 intro d
 induction d with
 | zero =>
  intro l st hb hl
  rw [searchOf, keepOne]
  split
  · exact .inr ⟨hb, by dsimp only; omega, rfl⟩
  · exact .inl rfl
 | succ d ih =>
  intro l st hb hl
  rw [searchOf]
  have keep : ∀ (L : List Nat) (s : List Int × Int), (∀ a ∈ L, a < n) → (s = st ∨ (Begun n s.1 ∧ s.1.length = n ∧ s.2 = sc s.1)) → ((L.foldl (fun st (i : Nat) => if l.contains (i : Int) = true then st else searchOf sc n d (l ++ [(i : Int)]) st) s) = st ∨ (Begun n (L.foldl (fun st (i : Nat) => if l.contains (i : Int) = true then st else searchOf sc n d (l ++ [(i : Int)]) st) s).1 ∧ (L.foldl (fun st (i : Nat) => if l.contains (i : Int) = true then st else searchOf sc n d (l ++ [(i : Int)]) st) s).1.length = n ∧ (L.foldl (fun st (i : Nat) => if l.contains (i : Int) = true then st else searchOf sc n d (l ++ [(i : Int)]) st) s).2 = sc (L.foldl (fun st (i : Nat) => if l.contains (i : Int) = true then st else searchOf sc n d (l ++ [(i : Int)]) st) s).1)) := by
   intro L
   induction L with
   | nil => intro s _ h; exact h
   | cons a L ihL =>
    intro s hL h
    rw [List.foldl_cons]
    refine ihL _ (fun b hb => hL b (by simp [hb])) ?_
    cases hc : l.contains (a : Int) with
    | true => rw [if_pos rfl]; exact h
    | false =>
     rw [if_neg (by decide)]
     rcases ih (l ++ [(a : Int)]) s (hb.snoc a (hL a (by simp)) hc) (by rw [List.length_append, List.length_singleton]; omega) with e | e
     · rw [e]; exact h
     · exact .inr e
  exact keep _ _ (fun a ha => List.mem_range.mp ha) (.inl rfl)
theorem best_pair (sc : List Int → Int) (n : Nat) (hsc : ∀ o, Begun n o → o.length = n → 0 ≤ sc o) : Begun n (bestOf sc n).1 ∧ (bestOf sc n).1.length = n ∧ (bestOf sc n).2 = sc (bestOf sc n).1 := by
 have h0 := (search_all sc n hsc n [] ([], -1) (iota n) ⟨iota_nodup n, fun x hx => (iota_mem n x).mp hx⟩ (iota_len n) (by simp)).1
 rcases search_pair sc n n [] ([], -1) ⟨List.Pairwise.nil, fun x hx => by cases hx⟩ (by simp) with e | e
 · rw [e] at h0
   exact absurd h0 (by decide)
 · exact e
theorem late_zero {l : List S57} {o t : List Int} (H : Lates l o t) : ∀ i, i ≤ o.length → ((lateList l o t i).length = 0 ↔ lateSum l o t i = 0)
 | 0, _ => ⟨fun _ => rfl, fun _ => rfl⟩
 | i + 1, hi => by
  have ih := late_zero H i (by omega)
  have b := lateSum_bd H i (by omega)
  rw [lateList, lateSum]
  by_cases c : rd t (i : Int) > (rd_T57 l (rd o (i : Int))).f2
  · rw [if_pos c, if_pos c, List.length_append, List.length_singleton]
    constructor
    · intro h; omega
    · intro h; omega
  · rw [if_neg c, if_neg c]
    exact ih
end Go.Proofs.Ythkccaclmodjiaa.I
end
section
namespace Go.Proofs.Ythkccaclmodjiaa.I
open Go.RowKit Go.Proofs.YthkccaclmodjiaaW.PrintWords Go.Proofs.YthkccaclmodjiaaW.PrintLast Go.Proofs.YthkccaclmodjiaaW.PrintMore
attribute [local go_sem] max2_int min2_int max_two min_two max_three min_three max_four min_four
set_option linter.unusedVariables false
set_option linter.unusedSimpArgs false
def Bytes (l : List Int) : Prop := ∀ x ∈ l, (Lit.int .u8 x).wf = true
theorem byte_at {l : List Int} (h : Bytes l) (i : Nat) (hi : i < l.length) : 0 ≤ rd l (i : Int) ∧ rd l (i : Int) ≤ 255 := by
 rw [rd_of_lt l i hi]
 have := h _ (List.getElem_mem hi)
 simp [Lit.wf, IntKind.min, IntKind.max, IntKind.bits, IntKind.signed] at this
 omega
theorem and255 (a : Int) : 0 ≤ Go.bits .and .u64 a 255 ∧ Go.bits .and .u64 a 255 ≤ 255 := by
 have e : ∃ v : BitVec 64, Go.bits .and .u64 a 255 = IntKind.u64.wrap ((v.toNat : Nat) : Int) ∧ v = BitVec.ofInt 64 a &&& BitVec.ofInt 64 255 := ⟨_, rfl, rfl⟩
 obtain ⟨v, h1, h2⟩ := e
 have hv : v.toNat ≤ 255 := by
  rw [h2, BitVec.toNat_and]
  exact Nat.le_trans Nat.and_le_right (by decide)
 rw [h1, show IntKind.u64.wrap ((v.toNat : Nat) : Int) = ((v.toNat : Nat) : Int) from IntWalk.u64_in _ ⟨by omega, by omega⟩]
 exact ⟨by omega, by omega⟩
theorem nextB {l : List Int} (h : Bytes l) (i : Nat) (hi : i ≤ 100000) (x : Int) : ∃ r y, spec_l00Src_next.f l (i : Int) x = some (r, ((i + 1 : Nat) : Int), y) ∧ 0 ≤ r ∧ r ≤ 255 := by
 unfold spec_l00Src_next.f
 rw [show wrap64 ((i : Int) + 1) = ((i + 1 : Nat) : Int) by rw [w64 _ (by omega) (by omega)]; rfl]
 by_cases c : (i : Int) < (l.length : Int)
 · have hb := byte_at h i (by omega)
   rw [if_pos c, if_pos (by omega), if_pos (by omega)]
   exact ⟨_, _, rfl, by rw [w64 _ (by omega) (by omega)]; exact hb.1, by rw [w64 _ (by omega) (by omega)]; exact hb.2⟩
 · rw [if_neg c, if_neg (by omega)]
   have g : ∀ z, 0 ≤ wrap64 (Go.bits .and .u64 z 255) ∧ wrap64 (Go.bits .and .u64 z 255) ≤ 255 := by
    intro z
    have := and255 z
    rw [w64 _ (by omega) (by omega)]
    exact this
   exact ⟨_, _, rfl, (g _).1, (g _).2⟩
theorem pickB {l : List Int} (h : Bytes l) (i : Nat) (hi : i ≤ 100000) (x : Int) (q : Int) (h1 : 1 < q) (h2 : q ≤ 200) : ∃ t y, spec_l00Src_pick.f l (i : Int) x q = some (t, ((i + 1 : Nat) : Int), y) ∧ 0 ≤ t ∧ t < q := by
 obtain ⟨r, y, hr, r0, r1⟩ := nextB h i hi x
 refine ⟨Int.tmod r q, y, ?_, ?_, ?_⟩
 · unfold spec_l00Src_pick.f
   rw [if_neg (by omega), hr, Option.bind_some, if_neg (by omega), if_neg (by omega)]
 · rw [Int.tmod_eq_emod_of_nonneg r0]; exact Int.emod_nonneg _ (by omega)
 · rw [Int.tmod_eq_emod_of_nonneg r0]; exact Int.emod_lt_of_pos _ (by omega)
theorem i8_of (t : Int) (h0 : 0 ≤ t) (h1 : t ≤ 127) : IntKind.i8.wrap t = t := IntWalk.i8_in _ ⟨by omega, by omega⟩
theorem i16_of (t : Int) (h0 : 0 ≤ t) (h1 : t ≤ 32767) : IntKind.i16.wrap t = t := IntWalk.i16_in _ ⟨by omega, by omega⟩
theorem drawIron {l : List Int} (h : Bytes l) : ∃ x y, spec_P6Iron.f l = some (x, y) ∧ (0 ≤ x ∧ x ≤ 5) ∧ (0 ≤ y ∧ y ≤ 8) := by
 obtain ⟨t, y1, h1, t0, t1⟩ := pickB h 0 (by omega) 0 6 (by decide) (by decide)
 obtain ⟨u, y2, h2, u0, u1⟩ := pickB h 1 (by omega) y1 9 (by decide) (by decide)
 refine ⟨t, u, ?_, ⟨t0, by omega⟩, ⟨u0, by omega⟩⟩
 unfold spec_P6Iron.f spec_l00From.f
 rw [Option.bind_some, show spec_l00Src_pick.f l 0 0 6 = _ from h1, Option.bind_some, show spec_l00Src_pick.f l ((0 + 1 : Nat) : Int) y1 9 = _ from h2, Option.bind_some, i8_of t t0 (by omega), i8_of u u0 (by omega)]
theorem drawPieces {l : List Int} (h : Bytes l) : ∃ L, Ev (fun k => spec_P6Pieces.f k l) L ∧ L.length ≤ 5 ∧ Fine L := by
 obtain ⟨t, y, hp, t0, t1⟩ := pickB h 0 (by omega) 0 6 (by decide) (by decide)
 have key : ∀ (d : Nat) (t : Int) (i : Nat) (y : Int) (out : List S57), t ≤ (d : Int) → d ≤ 5 → i + 3 * d ≤ 1000 → out.length + d ≤ 5 → Fine out → ∃ L i' y', Ev (fun k => spec_l07Drawn.l0 k out t l (i : Int) y) (L, i', y') ∧ L.length ≤ 5 ∧ Fine L := by
  intro d
  induction d with
  | zero =>
   intro t i y out ht _ _ ho hf
   exact ⟨out, _, _, Ev.step (f := fun _ => some (out, (i : Int), y)) (fun k => by rw [spec_l07Drawn.l0, if_neg (by omega)]) (Ev.const rfl), by omega, hf⟩
  | succ d ih =>
   intro t i y out ht hd hi ho hf
   by_cases c : t > 0
   · obtain ⟨a, y1, ha, a0, a1⟩ := pickB h i (by omega) y 3 (by decide) (by decide)
     obtain ⟨b, y2, hb, b0, b1⟩ := pickB h (i + 1) (by omega) y1 12 (by decide) (by decide)
     obtain ⟨e, y3, he, e0, e1⟩ := pickB h (i + 2) (by omega) y2 60 (by decide) (by decide)
     have wa : wrap64 (1 + a) = 1 + a := w64 _ (by omega) (by omega)
     have wb : wrap64 (1 + b) = 1 + b := w64 _ (by omega) (by omega)
     have fine : Fine (out ++ [(⟨1 + a, 1 + b, e⟩ : S57)]) := by
      intro p hp
      rcases List.mem_append.mp hp with hp | hp
      · exact hf p hp
      · rw [List.mem_singleton] at hp
        subst hp
        exact ⟨wa, wb, w64 _ (by dsimp only; omega) (by dsimp only; omega), by dsimp only; omega, by dsimp only; omega, by dsimp only; omega, by dsimp only; omega, by dsimp only; omega, by dsimp only; omega⟩
     obtain ⟨L, i', y', hL, h1, h2⟩ := ih (t - 1) (i + 3) y3 _ (by omega) (by omega) (by omega) (by rw [List.length_append, List.length_singleton]; omega) fine
     refine ⟨L, i', y', Ev.step (f := fun k => spec_l07Drawn.l0 k (out ++ [(⟨1 + a, 1 + b, e⟩ : S57)]) (t - 1) l ((i + 3 : Nat) : Int) y3) (fun k => ?_) hL, h1, h2⟩
     rw [spec_l07Drawn.l0, if_pos c, ha, Option.bind_some, hb, Option.bind_some, he, Option.bind_some, if_pos (by omega), wa, wb, i8_of _ (by omega) (by omega), i8_of _ (by omega) (by omega), i16_of e e0 (by omega), w64 (t - 1) (by omega) (by omega)]
   · exact ⟨out, _, _, Ev.step (f := fun _ => some (out, (i : Int), y)) (fun k => by rw [spec_l07Drawn.l0, if_neg c]) (Ev.const rfl), by omega, hf⟩
 obtain ⟨L, i', y', hL, h1, h2⟩ := key 5 t 1 y [] (by omega) (by omega) (by omega) (by simp) (fun p hp => by cases hp)
 refine ⟨L, Ev.congr (f := fun k => (spec_l07Drawn.l0 k [] t l ((1 : Nat) : Int) y).bind fun b => some b.1) (fun k => ?_) (Ev.bind hL (Ev.const rfl)), h1, h2⟩
 unfold spec_P6Pieces.f spec_l00From.f spec_l07Drawn.f
 rw [Option.bind_some, show spec_l00Src_pick.f l 0 0 6 = _ from hp, Option.bind_some]
end Go.Proofs.Ythkccaclmodjiaa.I
end
section
namespace Go.Proofs.Ythkccaclmodjiaa.I
open Go.RowKit Go.Proofs.YthkccaclmodjiaaW.PrintWords Go.Proofs.YthkccaclmodjiaaW.PrintLast Go.Proofs.YthkccaclmodjiaaW.PrintMore
attribute [local go_sem] max2_int min2_int max_two min_two max_three min_three max_four min_four
set_option linter.unusedVariables false
set_option linter.unusedSimpArgs false
theorem pickAny {l : List Int} (h : Bytes l) (i : Nat) (hi : i ≤ 100000) (x : Int) (q : Int) (h1 : 1 ≤ q) (h2 : q ≤ 200) : ∃ (t : Nat) (j : Nat) (y : Int), spec_l00Src_pick.f l (i : Int) x q = some ((t : Int), (j : Int), y) ∧ (t : Int) < q ∧ j ≤ i + 1 := by
 by_cases c : q = 1
 · subst c
   refine ⟨0, i, x, ?_, by omega, by omega⟩
   unfold spec_l00Src_pick.f
   rw [if_pos (by decide)]
   rfl
 · obtain ⟨t, y, hp, t0, t1⟩ := pickB h i hi x q (by omega) h2
   obtain ⟨t', rfl⟩ := Int.eq_ofNat_of_zero_le t0
   exact ⟨t', i + 1, y, hp, t1, Nat.le_refl _⟩
theorem put_begun (i : Nat) (out : List Int) (hb : Begun i out) (t : Nat) : Begun (i + 1) ((out.take t ++ [(i : Int)]) ++ out.drop t) := by
 have hp : ((out.take t ++ [(i : Int)]) ++ out.drop t).Perm ((i : Int) :: out) := by
  have e : (i : Int) :: out = (i : Int) :: (out.take t ++ out.drop t) := by rw [List.take_append_drop]
  rw [e, List.append_assoc, List.singleton_append]
  exact List.perm_middle
 refine ⟨hp.nodup_iff.mpr (List.nodup_cons.mpr ⟨fun hm => ?_, hb.nodup⟩), fun z hz => ?_⟩
 · have := (hb.range _ hm).2
   omega
 · rcases List.mem_cons.mp (hp.mem_iff.mp hz) with rfl | hz
   · exact ⟨by omega, by omega⟩
   · have := hb.range z hz
     exact ⟨this.1, by omega⟩
theorem drawOrder {l : List Int} (h : Bytes l) (n : Nat) (hn : n ≤ 8) : ∃ o, Ev (fun k => spec_P6Order.f k l (n : Int)) o ∧ Begun n o ∧ o.length = n := by
 have key : ∀ (d i : Nat) (j : Nat) (y : Int) (out : List Int), i + d = n → j ≤ i → out.length = i → Begun i out → ∃ o, Ev (fun k => spec_P6Order.l0 k (n : Int) out (i : Int) l (j : Int) y) o ∧ Begun n o ∧ o.length = n := by
  intro d
  induction d with
  | zero =>
   intro i j y out hd hj ho hb
   obtain rfl : i = n := by omega
   exact ⟨out, Ev.step (f := fun _ => some out) (fun k => by rw [spec_P6Order.l0, if_neg (by omega)]) (Ev.const rfl), hb, ho⟩
  | succ d ih =>
   intro i j y out hd hj ho hb
   have w1 : wrap64 ((out.length : Int) + 1) = (i : Int) + 1 := by rw [w64 _ (by omega) (by omega), ho]
   obtain ⟨t, j', y', hp, t1, hj'⟩ := pickAny h j (by omega) y ((i : Int) + 1) (by omega) (by omega)
   have hl : ((out.take t ++ [(i : Int)]) ++ out.drop t).length = i + 1 := by
    rw [List.length_append, List.length_append, List.length_take, List.length_drop, List.length_singleton]
    omega
   obtain ⟨o, hE, h1, h2⟩ := ih (i + 1) j' y' _ (by omega) (by omega) hl (put_begun i out hb t)
   have lt : (out.take t).length = t := by rw [List.length_take]; omega
   have ld : (out.drop t).length = i - t := by rw [List.length_drop]; omega
   refine ⟨o, Ev.step (f := fun k => spec_P6Order.l0 k (n : Int) ((out.take t ++ [(i : Int)]) ++ out.drop t) ((i + 1 : Nat) : Int) l (j' : Int) y') (fun k => ?_) hE, h1, h2⟩
   rw [spec_P6Order.l0, if_pos (by omega), w1, hp, Option.bind_some, Option.bind_some]
   dsimp only
   rw [if_pos (by omega), if_pos (by omega), Option.bind_some, Int.toNat_natCast, List.nil_append, if_pos (by simp only [List.length_nil]; omega), Option.bind_some, if_pos (by omega), Option.bind_some, Option.bind_some, if_pos (by rw [List.length_append, List.length_singleton]; omega), show wrap64 ((i : Int) + 1) = ((i + 1 : Nat) : Int) by rw [w64 _ (by omega) (by omega)]; rfl]
 obtain ⟨o, hE, h1, h2⟩ := key n 0 0 0 [] (by omega) (Nat.le_refl _) rfl ⟨List.Pairwise.nil, fun x hx => by cases hx⟩
 refine ⟨o, Ev.congr (fun k => ?_) hE, h1, h2⟩
 unfold spec_P6Order.f spec_l00From.f
 rw [Option.bind_some]
 rfl
end Go.Proofs.Ythkccaclmodjiaa.I
end
section
namespace Go.Proofs.Ythkccaclmodjiaa.I
open Go.RowKit Go.Proofs.YthkccaclmodjiaaW.PrintWords Go.Proofs.YthkccaclmodjiaaW.PrintLast Go.Proofs.YthkccaclmodjiaaW.PrintMore
attribute [local go_sem] max2_int min2_int max_two min_two max_three min_three max_four min_four
set_option linter.unusedVariables false
set_option linter.unusedSimpArgs false
def LexNum (nums : List Int) (a b : Int) : Prop := rd nums a < rd nums b ∨ (rd nums a = rd nums b ∧ a < b)
theorem insR_lex (nums : List Int) (x : Int) : ∀ (R S : List Int), (R.reverse ++ S).Pairwise (LexNum nums) → (∀ s ∈ S, rd nums x < rd nums s) → (∀ y ∈ R, y < x) → (insR (ltNum nums) x R S).Pairwise (LexNum nums)
 | [], S, hp, hs, _ => by
  rw [insR]
  exact List.pairwise_cons.mpr ⟨fun s h => .inl (hs s h), by simpa using hp⟩
 | y :: R, S, hp, hs, hy => by
  rw [insR]
  have e : (y :: R).reverse ++ S = R.reverse ++ (y :: S) := by simp
  rw [e] at hp
  by_cases c : ltNum nums x y = true
  · rw [if_pos c]
    have c' : rd nums x < rd nums y := of_decide_eq_true c
    refine insR_lex nums x R (y :: S) hp (fun s h => ?_) (fun z hz => hy z (by simp [hz]))
    rcases List.mem_cons.mp h with rfl | h
    · exact c'
    · exact hs s h
  · rw [if_neg c]
    have c' : ¬ rd nums x < rd nums y := fun h => c (decide_eq_true h)
    obtain ⟨p1, p2, p3⟩ := List.pairwise_append.mp hp
    obtain ⟨q1, q2⟩ := List.pairwise_cons.mp p2
    have yx := hy y (by simp)
    refine List.pairwise_append.mpr ⟨p1, List.pairwise_cons.mpr ⟨fun z hz => ?_, List.pairwise_cons.mpr ⟨fun s h => .inl (hs s h), q2⟩⟩, fun z hz w hw => ?_⟩
    · rcases List.mem_cons.mp hz with rfl | hz
      · by_cases g : rd nums y = rd nums z
        · exact .inr ⟨g, yx⟩
        · exact .inl (by omega)
      · exact q1 z hz
    · rcases List.mem_cons.mp hw with rfl | hw
      · exact p3 z hz w (by simp)
      · rcases List.mem_cons.mp hw with rfl | hw
        · have h1 := p3 z hz y (by simp)
          have zx := hy z (by simp [List.mem_reverse.mp hz])
          rcases h1 with h1 | h1
          · exact .inl (by omega)
          · by_cases g : rd nums z = rd nums w
            · exact .inr ⟨g, zx⟩
            · exact .inl (by omega)
        · exact p3 z hz w (by simp [hw])
theorem isortFrom_lex (nums : List Int) : ∀ (r P : List Int), P.Pairwise (LexNum nums) → r.Pairwise (fun a b => a < b) → (∀ p ∈ P, ∀ q ∈ r, p < q) → (isortFrom (ltNum nums) P r).Pairwise (LexNum nums)
 | [], P, hP, _, _ => hP
 | x :: r, P, hP, hr, hc => by
  obtain ⟨r1, r2⟩ := List.pairwise_cons.mp hr
  rw [isortFrom]
  refine isortFrom_lex nums r _ (insR_lex nums x P.reverse [] (by simpa using hP) (fun s h => by cases h) (fun y hy => hc y (List.mem_reverse.mp hy) x (by simp))) r2 (fun p hp q hq => ?_)
  rcases insR_mem _ _ _ _ _ hp with rfl | h | h
  · exact r1 q hq
  · exact hc p (List.mem_reverse.mp h) q (by simp [hq])
  · cases h
theorem byLt_lex (nums : List Int) (n : Nat) : (byLt (ltNum nums) n).Pairwise (LexNum nums) := by
 unfold byLt
 exact isortFrom_lex nums (iota n) [] List.Pairwise.nil (iota_inc n) (fun p hp => by cases hp)
theorem byLt_begun (nums : List Int) (n : Nat) : Begun n (byLt (ltNum nums) n) := by
 refine ⟨(byLt_lex nums n).imp ?_, fun x hx => ?_⟩
 · intro a b h e
   subst e
   rcases h with h | h
   · omega
   · omega
 · rcases isortFrom_mem _ x _ _ hx with h | h
   · cases h
   · exact (iota_mem n x).mp h
end Go.Proofs.Ythkccaclmodjiaa.I
end
section
namespace Go.Proofs.Ythkccaclmodjiaa.I
open Go.RowKit Go.Proofs.YthkccaclmodjiaaW.PrintWords Go.Proofs.YthkccaclmodjiaaW.PrintLast Go.Proofs.YthkccaclmodjiaaW.PrintMore
attribute [local go_sem] max2_int min2_int max_two min_two max_three min_three max_four min_four
set_option linter.unusedVariables false
set_option linter.unusedSimpArgs false
theorem insR_congr {α : Type} (lt lt' : α → α → Bool) (x : α) : ∀ (R S : List α), (∀ y ∈ R, lt x y = lt' x y) → insR lt x R S = insR lt' x R S
 | [], _, _ => rfl
 | y :: R, S, h => by
  rw [insR, insR, h y (by simp)]
  by_cases c : lt' x y = true
  · rw [if_pos c, if_pos c, insR_congr lt lt' x R (y :: S) (fun z hz => h z (by simp [hz]))]
  · rw [if_neg c, if_neg c]
theorem isortFrom_congr {α : Type} (lt lt' : α → α → Bool) : ∀ (r P : List α), (∀ a b, (a ∈ P ∨ a ∈ r) → (b ∈ P ∨ b ∈ r) → lt a b = lt' a b) → isortFrom lt P r = isortFrom lt' P r
 | [], _, _ => rfl
 | x :: r, P, h => by
  rw [isortFrom, isortFrom, insR_congr lt lt' x P.reverse [] (fun y hy => h x y (.inr (by simp)) (.inl (List.mem_reverse.mp hy)))]
  refine isortFrom_congr lt lt' r _ fun a b ha hb => ?_
  have f : ∀ z, (z ∈ insR lt' x P.reverse [] ∨ z ∈ r) → (z ∈ P ∨ z ∈ x :: r) := by
   rintro z (hz | hz)
   · rcases insR_mem lt' x z P.reverse [] hz with e | e | e
     · exact .inr (by simp [e])
     · exact .inl (List.mem_reverse.mp e)
     · cases e
   · exact .inr (by simp [hz])
  exact h a b (f a ha) (f b hb)
theorem sortKey_nums (key : S57 → Int) (l : List S57) (hk : ∀ p ∈ l, 0 ≤ key p ∧ key p ≤ 1000) : sortKey key l = byLt (ltNum (l.map key)) l.length := by
 unfold sortKey byLt
 refine isortFrom_congr _ _ _ _ ?_
 have at_ : ∀ a : Int, (a ∈ ([] : List Int) ∨ a ∈ iota l.length) → rd (l.map key) a = key (rd_T57 l ((a.toNat : Nat) : Int)) ∧ (0 ≤ key (rd_T57 l ((a.toNat : Nat) : Int)) ∧ key (rd_T57 l ((a.toNat : Nat) : Int)) ≤ 1000) := by
  rintro a (h | h)
  · cases h
  · have hb := (iota_mem _ _).mp h
    obtain ⟨i, rfl⟩ : ∃ i : Nat, a = (i : Int) := ⟨a.toNat, by omega⟩
    have c : i < l.length := by omega
    rw [Int.toNat_natCast, rd57_lt l i c, rd_of_lt _ i (by simpa using c), List.getElem_map]
    exact ⟨rfl, hk _ (List.getElem_mem _)⟩
 intro a b ha hb
 obtain ⟨e1, b1⟩ := at_ a ha
 obtain ⟨e2, b2⟩ := at_ b hb
 unfold ltNum
 rw [e1, e2]
 generalize key (rd_T57 l ((a.toNat : Nat) : Int)) = u at b1 ⊢
 generalize key (rd_T57 l ((b.toNat : Nat) : Int)) = v at b2 ⊢
 have w : wrap64 (u - v) = u - v := w64 _ (by omega) (by omega)
 rw [w]
 by_cases q : u < v
 · rw [decide_eq_true q, decide_eq_true (by omega)]
 · rw [decide_eq_false q, decide_eq_false (by omega)]
theorem codeIron_0 (l : List S57) : codeIron 0 0 l = codeOf l := by
 have h : okIron 0 0 = true := by
  unfold okIron
  rw [w64 0 (by omega) (by omega)]
  rfl
 unfold codeIron
 rw [if_pos h]
def orderRes (key : S57 → Int) (l : List S57) : List Int × Int := if codeOf l = 0 then (sortKey key l, 0) else ([], codeOf l)
theorem orderBy_ev (key : S57 → Int) (l : List S57) : Ev (fun k => orderBy key k l) (orderRes key l) := by
 refine Ev.bind (pieceCode_ev l) ?_
 unfold orderRes
 by_cases c : codeOf l = 0
 · rw [if_pos c, if_pos c]
   have h8 : l.length ≤ 8 := by
    have := codeIron_0 l
    exact (code_zero 0 0 l (this.trans c)).2.1
   rw [if_pos h8]
   exact Ev.const rfl
 · rw [if_neg c, if_neg c]
   exact Ev.const rfl
theorem specDueOrder_nums (l : List S57) (h8 : l.length ≤ 8) : Ev (fun k => spec_DueOrder.l0 k l [] 0) (byLt (ltNum (l.map (fun x => wrap64 x.f2))) l.length, 0) := by
 have key : ∀ (d i : Nat), i + d = l.length → Ev (fun k => spec_DueOrder.l0 k l ((l.map (fun x => wrap64 x.f2)).take i) (i : Int)) (byLt (ltNum (l.map (fun x => wrap64 x.f2))) l.length, 0) := by
  intro d
  induction d with
  | zero =>
   intro i hd
   obtain rfl : i = l.length := by omega
   have s := specSorted_ev (l.map (fun x => wrap64 x.f2)) (by rw [List.length_map]; exact h8)
   rw [List.length_map] at s
   have tk : (l.map (fun x => wrap64 x.f2)).take l.length = l.map (fun x => wrap64 x.f2) := List.take_of_length_le (by rw [List.length_map]; exact Nat.le_refl _)
   rw [tk]
   refine Ev.step (f := fun k => (spec_l07Sorted.f k (l.map (fun x => wrap64 x.f2))).bind fun t368 => (some (t368, 0))) (fun k => ?_) (Ev.bind s (Ev.const rfl))
   rw [spec_DueOrder.l0]
   rw [if_neg (Int.lt_irrefl _)]
  | succ d ih =>
   intro i hd
   have c : i < l.length := by omega
   have c1 : (i : Int) < (l.length : Int) := by omega
   have c2 : (0 : Int) ≤ (i : Int) := by omega
   have c3 : ((l.map (fun x => wrap64 x.f2)).take i).length < 17592186044416 := by rw [List.length_take, List.length_map]; omega
   have w5 := succ64 i (by omega)
   have n := ih (i + 1) (by omega)
   have tk : (l.map (fun x => wrap64 x.f2)).take (i + 1) = (l.map (fun x => wrap64 x.f2)).take i ++ [wrap64 l[i].f2] := by
    rw [List.take_add_one, List.getElem?_map, List.getElem?_eq_getElem c]
    rfl
   rw [tk] at n
   refine Ev.step (f := fun k => spec_DueOrder.l0 k l ((l.map (fun x => wrap64 x.f2)).take i ++ [wrap64 l[i].f2]) ((i + 1 : Nat) : Int)) (fun k => ?_) n
   rw [spec_DueOrder.l0]
   rw [if_pos c1, if_pos c2, if_pos c3, rd57_lt l i c, w5]
 have := key l.length 0 (by omega)
 rw [List.take_zero] at this
 exact this
theorem DueOrder_both (l : List S57) (hm : l.length ≤ 4611686018427387904) (ht : Typed l) :
 Ev (fun k => spec_DueOrder.f k l) (orderRes (fun x => wrap64 x.f2) l) ∧ Ev (fun k => impl_DueOrder.f k l) (orderRes (fun x => wrap64 x.f2) l) := by
 refine ⟨?_, orderBy_ev _ l⟩
 have a := asked_ev 0 0 l hm
 rw [codeIron_0] at a
 refine Ev.bind a ?_
 unfold orderRes
 by_cases c : codeOf l = 0
 · obtain ⟨h8, hf⟩ := fine_of 0 0 l ht ((codeIron_0 l).trans c)
   rw [if_pos c, sortKey_nums _ l (fun p hp => by
    have f := hf p hp
    rw [f.2.2.1]
    exact ⟨f.2.2.2.2.2.2.2.1, f.2.2.2.2.2.2.2.2⟩)]
   exact Ev.ite_t c (specDueOrder_nums l h8)
 · rw [if_neg c]
   exact Ev.ite_f c (Ev.const rfl)
end Go.Proofs.Ythkccaclmodjiaa.I
end
