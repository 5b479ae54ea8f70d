/- The program's ValidMark answers as the reference's for every number of stitches and every mark. No condition. -/
import Derived.Test.YtdengckenddcoaaPFnExactValidMarkx1
namespace Go.Proofs.Ytdengckenddcoaa.Pure
open Go.RowKit Go.Proofs.Ytdengckenddcoaa.PFnExactValidMark Go.Proofs.YtdengckenddcoaaW.PrintWords Go.Proofs.YtdengckenddcoaaW.PrintLast

theorem FnExactValidMark : laws_FnExactValidMark.Pure := by
  intro a0 a1 h0 h1
  unfold laws_FnExactValidMark.f spec_ValidMark.f impl_ValidMark.f spec_l06Ok.f impl_areStitches.f impl_within.f spec_l06Many.f spec_l00In.f
  by_cases c1 : 1 ≤ a0
  · by_cases c2 : a0 ≤ 12
    · have e : IntKind.u64.wrap a0 = a0 := IntWalk.u64_in _ ⟨by omega, by omega⟩
      simp [c1, c2, e, show 0 ≤ a0 by omega]
    · simp [c1, c2]
  · simp [c1]

end Go.Proofs.Ytdengckenddcoaa.Pure
