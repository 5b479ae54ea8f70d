import Derived.Test.YtggjdcijplgpdaaRows
import Derived.JoinedOf
import Derived.KernelRfl
import Derived.WalkKit
namespace Go.Proofs.Ytggjdcijplgpdaa.Head
theorem x_gc : ("cut".toList == "gc".toList) = false := by kernel_rfl
theorem x_spec : ("cut".toList == "spec".toList) = false := by kernel_rfl
theorem x_carried : ("cut".toList == "carried".toList) = false := by kernel_rfl
theorem s_carried : (some "cut".toList == some "carried".toList) = false := by kernel_rfl
theorem make_of (P : Program) (r : List (List Char)) (h : behindMainWord (wordsSigns P.initOrder.toList) = "cut".toList :: r) : P.make = some .cut := by
 unfold Program.make
 rw [h]
 have a := x_gc
 have b := x_spec
 have c : ("cut".toList == "cut".toList) = true := beq_self_eq_true _
 generalize "cut".toList = x at *
 generalize "gc".toList = y at *
 generalize "spec".toList = z at *
 simp only [a, b, c, Bool.false_or, Bool.true_or, if_true]
 rfl
theorem lifts_of (P : Program) (r : List (List Char)) (h : behindMainWord (wordsSigns P.initOrder.toList) = "cut".toList :: r) (hs : stripLifts liftWords ("cut".toList :: r) = ([], "cut".toList :: r)) : P.headLifts = [] := by
 unfold Program.headLifts
 rw [h, hs]
 generalize "cut".toList = x at *
 simp
theorem final_of (P : Program) (r : List (List Char)) (h : behindMainWord (wordsSigns P.initOrder.toList) = "cut".toList :: r) (hs : stripLifts liftWords ("cut".toList :: r) = ([], "cut".toList :: r)) : P.liftsFinal = false := by
 have hl := lifts_of P r h hs
 unfold Program.liftsFinal
 rw [h, hl]
 have a := s_carried
 generalize "cut".toList = x at *
 generalize "carried".toList = y at *
 simp only [List.head?_cons, a, Bool.false_and, Bool.false_or]
 rfl
theorem enter_of (P : Program) (r : List (List Char)) (h : behindMainWord (wordsSigns P.initOrder.toList) = "cut".toList :: r) (hs : stripLifts liftWords ("cut".toList :: r) = ([], "cut".toList :: r))
 (h1 : P.laysLater = false) (h2 : P.bearsReflect = false) (h3 : P.doorFits [] = true) : P.mayEnter = true := by
 unfold Program.mayEnter
 rw [h]
 dsimp only
 rw [hs]
 have a := x_gc
 have b := x_spec
 have d := x_carried
 generalize "cut".toList = x at *
 generalize "gc".toList = y at *
 generalize "spec".toList = z at *
 generalize "carried".toList = u at *
 simp [h1, h2, h3]
theorem and_t {a b : Bool} (h : a = true) (k : b = true) : (a && b) = true := by rw [h, k]; rfl
theorem joined_of {P : Program} {f : FuncId} {fn : Func} {s : ChangeSpec} {c : OpenClaim}
 (k0 : (c.wf (OpenSpec.ofChange s)) = true)
 (k1 : (laidOutB P) = true)
 (k2 : (mapsRowed P) = true)
 (k3 : (fn.params.all (P.readableRec ·)) = true)
 (k4 : (namedTie P c.named s.vars) = true)
 (k5 : ((c.stops == [])) = true)
 (k6 : ((P.stops == [])) = true)
 (k7 : ((c.knobs == [])) = true)
 (k8 : ((P.stopKnobs == [])) = true)
 (k9 : ((c.inPlace == P.inPlace f)) = true)
 (k10 : ((c.unfollowed == P.unfollowed f)) = true)
 (k11 : ((c.recurses == P.recurses f)) = true)
 (k12 : ((c.named == P.varsNamed f)) = true)
 (k13 : ((c.maps == (fn.params.toList ++ s.plain.varTypes P).any (P.mapsRec ·))) = true)
 (k14 : ((c.ifaces == (fn.params.toList ++ s.plain.varTypes P).any (P.ifacesRec ·))) = true)
 (k15 : ((c.mapsOut == P.mapsAmong fn.resultTypes.toList)) = true)
 (k16 : ((c.loops == (fn.params.toList ++ s.plain.varTypes P).any (P.loopsFrom ·))) = true)
 (k17 : ((c.wideKeys == (fn.params.toList ++ s.plain.varTypes P ++ fn.resultTypes.toList).any (P.wideKeysFrom ·))) = true)
 (k18 : (s.vars.all (P.varReadable ·)) = true)
 (k19 : (fn.resultTypes.all (fun t => P.readableRec t && decide (t < P.types.size))) = true)
 (k20 : ((c.ifacesOut == fn.resultTypes.toList.any (P.ifacesRec ·))) = true)
 (k21 : ((c.loopsOut == fn.resultTypes.toList.any (P.loopsFrom ·))) = true)
 (k22 : ((c.plainKeys == P.plainKeys)) = true)
 (k23 : (c.shortTexts.isNone) = true)
 (k24 : (P.stopsHeard) = true)
 (k25 : (P.mayEnter) = true)
 (k26 : ((c.lifted == P.liftsFinal)) = true)
 (k27 : ((P.make == some c.make)) = true)
 (k28 : ((c.kinds == (if c.domain.isEmpty then [] else fn.params.toList.map fun t => match P.underlying t with | some (.int k) => some k | _ => none))) = true)
 (k29 : ((c.pinned == c.pinnedBy)) = true)
 (k30 : ((c.veiled == (fn.params.toList ++ s.plain.varTypes P ++ fn.resultTypes.toList).any (P.veiledRec ·))) = true)
 (k31 : (c.veiledFits P fn.params.toList (fn.params.toList ++ s.plain.varTypes P ++ fn.resultTypes.toList)) = true) : joinedFacts P f fn s c = true := by
 unfold joinedFacts
 exact (and_t (and_t (and_t (and_t (and_t (and_t (and_t (and_t (and_t (and_t (and_t (and_t (and_t (and_t (and_t (and_t (and_t (and_t (and_t (and_t (and_t (and_t (and_t (and_t (and_t (and_t (and_t (and_t (and_t (and_t (and_t k0 k1) k2) k3) k4) k5) k6) k7) k8) k9) k10) k11) k12) k13) k14) k15) k16) k17) k18) k19) k20) k21) k22) k23) k24) k25) k26) k27) k28) k29) k30) k31)
def restNums : List (List Nat) := [[97, 116], [108, 111, 111, 112, 46, 101, 120, 97, 109, 112, 108, 101, 47, 103, 48, 49, 51, 55, 56, 47, 108, 97, 119, 115, 46, 70, 110, 69, 120, 97, 99, 116, 68, 97, 121, 65, 108, 108], [108, 111, 111, 112, 46, 101, 120, 97, 109, 112, 108, 101, 47, 103, 48, 49, 51, 55, 56, 47, 108, 97, 119, 115, 46, 70, 110, 83, 116, 111, 99, 107, 115], [108, 111, 111, 112, 46, 101, 120, 97, 109, 112, 108, 101, 47, 103, 48, 49, 51, 55, 56, 47, 108, 97, 119, 115, 46, 70, 110, 69, 120, 97, 99, 116, 65, 108, 108, 68, 114, 121, 65, 116], [108, 111, 111, 112, 46, 101, 120, 97, 109, 112, 108, 101, 47, 103, 48, 49, 51, 55, 56, 47, 108, 97, 119, 115, 46, 70, 110, 69, 120, 97, 99, 116, 72, 97, 110, 103, 73, 110, 79, 114, 100, 101, 114]]
def headNums : List Nat := [104, 97, 114, 110, 101, 115, 115, 32, 53, 101, 101, 98, 101, 98, 53, 100, 98, 53, 97, 102, 97, 50, 56, 98, 57, 54, 101, 54, 50, 49, 48, 97, 98, 102, 54, 100, 57, 102, 97, 57, 53, 49, 97, 102, 98, 55, 48, 48, 57, 48, 53, 56, 53, 101, 54, 51, 98, 54, 48, 51, 56, 51, 101, 53, 49, 101, 98, 102, 51, 100, 53, 100, 32, 99, 117, 116, 32, 97, 116, 32, 108, 111, 111, 112, 46, 101, 120, 97, 109, 112, 108, 101, 47, 103, 48, 49, 51, 55, 56, 47, 108, 97, 119, 115, 46, 70, 110, 69, 120, 97, 99, 116, 68, 97, 121, 65, 108, 108, 32, 108, 111, 111, 112, 46, 101, 120, 97, 109, 112, 108, 101, 47, 103, 48, 49, 51, 55, 56, 47, 108, 97, 119, 115, 46, 70, 110, 83, 116, 111, 99, 107, 115, 32, 108, 111, 111, 112, 46, 101, 120, 97, 109, 112, 108, 101, 47, 103, 48, 49, 51, 55, 56, 47, 108, 97, 119, 115, 46, 70, 110, 69, 120, 97, 99, 116, 65, 108, 108, 68, 114, 121, 65, 116, 32, 108, 111, 111, 112, 46, 101, 120, 97, 109, 112, 108, 101, 47, 103, 48, 49, 51, 55, 56, 47, 108, 97, 119, 115, 46, 70, 110, 69, 120, 97, 99, 116, 72, 97, 110, 103, 73, 110, 79, 114, 100, 101, 114]
def cutN : List Char := [99, 117, 116].map Char.ofNat
def restN : List (List Char) := restNums.map fun l => l.map Char.ofNat
theorem head_of : Try.prog.initOrder = String.ofList (headNums.map Char.ofNat) := by kernel_rfl
theorem head_list : Try.prog.initOrder.toList = headNums.map Char.ofNat := by rw [head_of, String.toList_ofList]
theorem cut_eq : "cut".toList = cutN := by kernel_rfl
theorem words : behindMainWord (wordsSigns Try.prog.initOrder.toList) = "cut".toList :: restN := by rw [head_list, cut_eq]; kernel_rfl
theorem strip : stripLifts liftWords ("cut".toList :: restN) = ([], "cut".toList :: restN) := by rw [cut_eq]; kernel_rfl
theorem lays : Try.prog.laysLater = false := by kernel_rfl
theorem bears : Try.prog.bearsReflect = false := by kernel_rfl
theorem door : Try.prog.doorFits [] = true := by kernel_rfl
theorem make : Try.prog.make = some .cut := make_of _ _ words
theorem liftsFinal : Try.prog.liftsFinal = false := final_of _ _ words strip
theorem mayEnter : Try.prog.mayEnter = true := enter_of _ _ words strip lays bears door
theorem mapsRowed_ : mapsRowed Try.prog = true := by kernel_rfl
theorem laidOut_ : laidOutB Try.prog = true := by kernel_rfl
theorem stops_ : (Try.prog.stops == []) = true := by kernel_rfl
theorem stopKnobs_ : (Try.prog.stopKnobs == []) = true := by kernel_rfl
theorem stopsHeard_ : Try.prog.stopsHeard = true := by kernel_rfl
end Go.Proofs.Ytggjdcijplgpdaa.Head
