import Derived.Test.YtggjdcijplgpdaazFStocksEAddP
import Derived.Test.YtggjdcijplgpdaazFStocksEDAll
import Derived.Test.YtggjdcijplgpdaazFStocksELayG
import Derived.Test.YtggjdcijplgpdaazFStocksEDayOf
import Derived.Test.YtggjdcijplgpdaazFStocksEFresh
import Derived.Test.YtggjdcijplgpdaazFStocksEDrawnH
import Derived.Test.YtggjdcijplgpdaazFStocksEHOk
import Derived.Test.YtggjdcijplgpdaazFStocksEInH
import Derived.Test.YtggjdcijplgpdaazFStocksELasts
import Derived.Test.YtggjdcijplgpdaazFStocksEVHF
import Derived.Test.YtggjdcijplgpdaazFStocksELeast
import Derived.Test.YtggjdcijplgpdaazFStocksESNeeds
import Derived.Test.YtggjdcijplgpdaazFStocksENewH
import Derived.Test.YtggjdcijplgpdaazFStocksH12
import Derived.Test.YtggjdcijplgpdaazFStocksESLeast
import Derived.Test.YtggjdcijplgpdaazFStocksESPure
import Derived.Test.YtggjdcijplgpdaazFStocksESameH
import Derived.Test.YtggjdcijplgpdaazFStocksEShortOf
import Derived.Test.YtggjdcijplgpdaazFStocksESome
import Derived.Test.YtggjdcijplgpdaazFStocksEVStock
import Derived.Test.YtggjdcijplgpdaazFStocksECloneSt
import Derived.Test.YtggjdcijplgpdaazFStocksH14
import Derived.Test.YtggjdcijplgpdaazFStocksH15
import Derived.Shelf.Abstract
import Derived.Deep.QuietTactic
import Derived.BigQuiet
import Derived.Deep.CutRange
import Derived.Deep.DeepCutAuto
namespace Go.Proofs.Ytggjdcijplgpdaa.H
open Go.RowKit Go.Proofs.YtggjdcijplgpdaaW.PrintWords Go.Proofs.YtggjdcijplgpdaaW.PrintLast Go.Proofs.YtggjdcijplgpdaaW.PrintMore
attribute [local go_sem] max2_int min2_int max_two min_two max_three min_three max_four min_four
set_option linter.unusedVariables false
set_option linter.unusedSimpArgs false
theorem stc16 (s : S55) {j : Nat} (h : j < 24) : (stC s).toArray[j]? = some (.int .i16 (s.at_ j)) := by
 rw [List.getElem?_toArray, stC_get s j (by omega)]
 unfold encSt
 rw [if_pos h]
theorem event_want {P : Program} {ops : Array Oper} {o : Oper} {rest : List Oper} {a : Act} {Q : Exit → Act → World → Prop} {W w1 : World} {v : Value} (hw : Region.wanted o (yielded ops a.tmps) = true) (hrun : (execOp a.eval o).run P W = .ok (.value v) w1) (h : wpList P ops Q rest (a.put o.dst v) w1) : wpList P ops Q (o :: rest) a W := by
 refine Go.BigFrame.wpList_want hw fun K hK => ?_
 unfold Oper.wp
 rw [hrun]
 exact hK _ _ h
theorem DrawnL.fit {l : List S55} {a1 a2 a3 : Int} (h : DrawnL l a1 a2 a3) : FitH l a1 a2 a3 :=
 ⟨fun s hs => (h.small s hs).fit (by decide), h.one, by have := h.three; omega, by have := h.tub; omega, by have := h.every; omega, by have := h.today; omega⟩
theorem csum_bd {s : S55} (h : FitSt s) : ∀ n, n ≤ 8 → 0 ≤ csum s n ∧ csum s n ≤ 500 * (n : Int)
 | 0, _ => ⟨Int.le_refl _, Int.le_refl _⟩
 | n + 1, hn => by
  have := csum_bd h n (by omega)
  have := at_pos h n
  have := at_le h n
  show 0 ≤ csum s n + s.at_ n ∧ csum s n + s.at_ n ≤ 500 * ((n + 1 : Nat) : Int)
  omega
theorem usum_bd {s : S55} (h : FitSt s) : ∀ n, n ≤ 8 → 0 ≤ usum s n ∧ usum s n ≤ 500 * (n : Int)
 | 0, _ => ⟨Int.le_refl _, Int.le_refl _⟩
 | n + 1, hn => by
  have := usum_bd h n (by omega)
  have := at_pos h (8 + n)
  have := at_le h (8 + n)
  show 0 ≤ usum s n + s.at_ (8 + n) ∧ usum s n + s.at_ (8 + n) ≤ 500 * ((n + 1 : Nat) : Int)
  omega
end Go.Proofs.Ytggjdcijplgpdaa.H
