/- The program's FrameOk answers as the reference's, at every frame. No condition beside the form's own reach. -/
import Derived.Test.YtbiaakkmmkddfaaPFnExactFrameOkx1
namespace Go.Proofs.Ytbiaakkmmkddfaa.Pure
open Go.RowKit Go.Proofs.Ytbiaakkmmkddfaa.PFnExactFrameOk Go.Proofs.YtbiaakkmmkddfaaW.PrintWords Go.Proofs.YtbiaakkmmkddfaaW.PrintLast

theorem FnExactFrameOk : laws_FnExactFrameOk.Pure := by
  intro a b _ _
  simp only [laws_FnExactFrameOk.f, laws_szFrame.f, laws_toFrame.f, spec_FrameOk.f, impl_FrameOk.f, spec_l01In.f, impl_within.f]
  by_cases h : wrap64 (1048576 - (b.size : Int)) < 0
  · rw [if_pos h]
    simp
  · rw [if_neg h]
    simp only [Option.bind_some]
    rw [if_neg h]
    by_cases h1 : a ≥ 0
    · rw [if_pos h1]
      simp only [Option.bind_some]
      by_cases h2 : decide (a ≤ 7) = true
      · rw [if_pos h2]
        simp
      · rw [if_neg h2]
        simp
    · rw [if_neg h1]
      simp
end Go.Proofs.Ytbiaakkmmkddfaa.Pure
