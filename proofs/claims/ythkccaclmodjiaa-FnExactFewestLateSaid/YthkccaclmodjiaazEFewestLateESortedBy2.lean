import Derived.Test.YthkccaclmodjiaazEFewestLateEIota
import Derived.Test.YthkccaclmodjiaazEFewestLateEPieceCode
import Derived.Test.YthkccaclmodjiaazEFewestLateESortI
import Derived.Test.YthkccaclmodjiaazEFewestLateEBLate
import Derived.Test.YthkccaclmodjiaazEFewestLateEEvLoop
import Derived.Test.YthkccaclmodjiaazEFewestLateI0
import Derived.Test.YthkccaclmodjiaaProg
import Derived.Test.YthkccaclmodjiaazEFewestLateESortedBy
import Derived.Test.YthkccaclmodjiaazEFewestLateESortedV
import Derived.Test.YthkccaclmodjiaazEFewestLateI4
import Derived.Shelf.Abstract
import Derived.RangeFuncBox
import Derived.Shelf.SlSortCmp.Insertion1
import Derived.Lib.SlKeysI
namespace Go.Proofs.Ythkccaclmodjiaa.I
open Go.RowKit Go.Proofs.YthkccaclmodjiaaW.PrintWords Go.Proofs.YthkccaclmodjiaaW.PrintLast Go.Proofs.YthkccaclmodjiaaW.PrintMore
attribute [local go_sem] max2_int min2_int max_two min_two max_three min_three max_four min_four
set_option linter.unusedVariables false
set_option linter.unusedSimpArgs false
open Go.Sort Go.Shelf Go.Lib
theorem own_R {w : World} {base n : Nat} {v : Value} {l : List Int} (hl : l.length = n) (h : w.ownsRow base 2 1 v n (l.map (Value.int .i64))) : Kd.R (Kd.int .i64) 2 w base (fun _ => True) v l :=
  ⟨fun _ _ => trivial, _, by rw [hl]; exact h, intKd_reps _⟩
theorem R_own_ints {w : World} {base : Nat} {ok : Nat → Prop} {v : Value} {l : List Int} (h : Kd.R (Kd.int .i64) 2 w base ok v l) : w.ownsRow base 2 1 v l.length (l.map (Value.int .i64)) := by
  obtain ⟨_, inner, hown, hreps⟩ := h
  obtain rfl : inner = l.map (Value.int .i64) := intKd_inner hreps
  exact hown
theorem empty_R (W : World) {base : Nat} (hb : base ≤ W.heap.size) : Kd.R (Kd.int .i64) 2 (W.alloc (.cells #[] 2)) base (fun _ => True) (.slice (some ⟨W.heap.size, 0, none⟩) 0 0) [] :=
  ⟨fun _ _ => trivial, [], ⟨by simp, .inr ⟨W.heap.size, 0, #[], rfl, hb, World.alloc_heap_new _ _, Nat.le_refl _, by decide, rfl, rfl⟩⟩, intKd_reps []⟩
end Go.Proofs.Ythkccaclmodjiaa.I
