/- The plain side of FnExactScrollBy: the printed function answers true at every input; no condition is added. -/
import Derived.Test.YtmjegiffddffdaaPFnExactScrollByx0
import Derived.Test.YtmjegiffddffdaaPFnExactScrollByx1
import Derived.Test.YtmjegiffddffdaaPFnExactScrollByx2
import Derived.Test.YtmjegiffddffdaaBase
namespace Go.Proofs.Ytmjegiffddffdaa.Pure
open Go.RowKit Go.Proofs.Ytmjegiffddffdaa.PFnExactScrollBy Go.Proofs.YtmjegiffddffdaaW.PrintWords Go.Proofs.YtmjegiffddffdaaW.PrintLast Go.Proofs.YtmjegiffddffdaaW.PrintMore Go.Proofs.Ytmjegiffddffdaa.Base
set_option linter.unusedVariables false
set_option linter.unusedSimpArgs false

theorem within_eq (a b c : Int) : impl_within.f a b c = some (decide (b ≤ a ∧ a ≤ c)) := by
  unfold impl_within.f
  by_cases h : b ≤ a
  · rw [if_pos h]; simp [h]
  · rw [if_neg h]; simp [h]

theorem inrange_eq (a b c : Int) : spec_inRange.f a b c = some (decide (b ≤ a ∧ a ≤ c)) := by
  unfold spec_inRange.f
  by_cases h : b ≤ a
  · rw [if_pos h]; simp [h]
  · rw [if_neg h]; simp [h]

theorem impl_ValidView_eq (t p f : Int) : impl_ValidView.f t p f = some (decide (VV t p f)) := by
  unfold impl_ValidView.f impl_View_most.f
  simp only [within_eq, Option.bind_some, decide_eq_true_eq]
  split
  · split
    · rw [w64 (n := t - p) (by omega) (by omega), mx_eq]
      refine congrArg some ?_
      rw [decide_eq_decide]
      omega
    · refine congrArg some ?_
      symm
      rw [decide_eq_false_iff_not]
      omega
  · refine congrArg some ?_
    symm
    rw [decide_eq_false_iff_not]
    omega

theorem spec_validView_eq (t p f : Int) : spec_validView.f t p f = some (decide (VV t p f)) := by
  unfold spec_validView.f
  simp only [inrange_eq, Option.bind_some, decide_eq_true_eq]
  split
  · split
    · rw [w64 (n := t - p) (by omega) (by omega), mx_eq]
      refine congrArg some ?_
      rw [decide_eq_decide]
      omega
    · refine congrArg some ?_
      symm
      rw [decide_eq_false_iff_not]
      omega
  · refine congrArg some ?_
    symm
    rw [decide_eq_false_iff_not]
    omega

theorem FnExactScrollBy (a0_0 a0_1 a0_2 a1 : Int) (w0_0 : (Lit.int .i64 a0_0).wf = true) (w0_1 : (Lit.int .i64 a0_1).wf = true) (w0_2 : (Lit.int .i64 a0_2).wf = true) (w1 : (Lit.int .i64 a1).wf = true) : laws_FnExactScrollBy.f a0_0 a0_1 a0_2 a1 = some true := by
  unfold laws_FnExactScrollBy.f laws_toView.f spec_ScrollBy.f impl_ScrollBy.f spec_clamped.f impl_View_at.f impl_View_most.f laws_eqView.f
  simp only [Option.bind_some, spec_validView_eq, impl_ValidView_eq, within_eq, inrange_eq, decide_eq_true_eq, mn_mx]
  by_cases h : VV a0_0 a0_1 a0_2
  · by_cases h0 : -500 ≤ a1 ∧ a1 ≤ 500
    · simp only [if_pos h, if_pos h0, Option.bind_some, if_true]
    · simp only [if_pos h, if_neg h0, Option.bind_some, if_true]
  · simp only [if_neg h, Option.bind_some, if_true]

end Go.Proofs.Ytmjegiffddffdaa.Pure
