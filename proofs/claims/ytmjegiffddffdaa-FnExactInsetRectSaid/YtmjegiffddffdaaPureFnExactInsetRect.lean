/- The plain side of FnExactInsetRect: the printed function answers true at every input; no condition is added. -/
import Derived.Test.YtmjegiffddffdaaPFnExactInsetRectx0
import Derived.Test.YtmjegiffddffdaaPFnExactInsetRectx1
import Derived.Test.YtmjegiffddffdaaBase
namespace Go.Proofs.Ytmjegiffddffdaa.Pure
open Go.RowKit Go.Proofs.Ytmjegiffddffdaa.PFnExactInsetRect Go.Proofs.YtmjegiffddffdaaW.PrintWords Go.Proofs.YtmjegiffddffdaaW.PrintLast Go.Proofs.YtmjegiffddffdaaW.PrintMore Go.Proofs.Ytmjegiffddffdaa.Base
set_option linter.unusedVariables false
set_option linter.unusedSimpArgs false

theorem within_eq (a b c : Int) : impl_within.f a b c = some (decide (b ≤ a ∧ a ≤ c)) := by
  unfold impl_within.f
  by_cases h : b ≤ a
  · rw [if_pos h]; simp [h]
  · rw [if_neg h]; simp [h]

theorem inrange_eq (a b c : Int) : spec_inRange.f a b c = some (decide (b ≤ a ∧ a ≤ c)) := by
  unfold spec_inRange.f
  by_cases h : b ≤ a
  · rw [if_pos h]; simp [h]
  · rw [if_neg h]; simp [h]

theorem impl_ValidRect_eq (x y w h : Int) : impl_ValidRect.f x y w h = some (decide (VR x y w h)) := by
  unfold impl_ValidRect.f
  simp only [within_eq, Option.bind_some, decide_eq_true_eq]
  split
  · split
    · rw [w64 (n := 1000 - w) (by omega) (by omega), w64 (n := 1000 - h) (by omega) (by omega)]
      split
      · refine congrArg some ?_
        rw [decide_eq_decide]
        omega
      · refine congrArg some ?_
        symm
        rw [decide_eq_false_iff_not]
        omega
    · refine congrArg some ?_
      symm
      rw [decide_eq_false_iff_not]
      omega
  · refine congrArg some ?_
    symm
    rw [decide_eq_false_iff_not]
    omega

theorem spec_validRect_eq (x y w h : Int) : spec_validRect.f x y w h = some (decide (VR x y w h)) := by
  unfold spec_validRect.f
  simp only [inrange_eq, Option.bind_some, decide_eq_true_eq]
  split
  · split
    · rw [w64 (n := 1000 - w) (by omega) (by omega), w64 (n := 1000 - h) (by omega) (by omega)]
      split
      · refine congrArg some ?_
        rw [decide_eq_decide]
        omega
      · refine congrArg some ?_
        symm
        rw [decide_eq_false_iff_not]
        omega
    · refine congrArg some ?_
      symm
      rw [decide_eq_false_iff_not]
      omega
  · refine congrArg some ?_
    symm
    rw [decide_eq_false_iff_not]
    omega

theorem FnExactInsetRect (a0_0 a0_1 a0_2 a0_3 : Int) (a1 a2 : Int) (w0_0 : (Lit.int .i64 a0_0).wf = true) (w0_1 : (Lit.int .i64 a0_1).wf = true) (w0_2 : (Lit.int .i64 a0_2).wf = true) (w0_3 : (Lit.int .i64 a0_3).wf = true) (w1 : (Lit.int .i64 a1).wf = true) (w2 : (Lit.int .i64 a2).wf = true) : laws_FnExactInsetRect.f a0_0 a0_1 a0_2 a0_3 a1 a2 = some true := by
  unfold laws_FnExactInsetRect.f laws_toRect.f spec_InsetRect.f impl_InsetRect.f spec_inset.f impl_Rect_inset.f laws_eqRect.f
  simp only [Option.bind_some, spec_validRect_eq, impl_ValidRect_eq, within_eq, inrange_eq, decide_eq_true_eq]
  rw [mx_comm (wrap64 (a0_2 - wrap64 (2 * a1))) 0, mx_comm (wrap64 (a0_3 - wrap64 (2 * a2))) 0]
  by_cases h : VR a0_0 a0_1 a0_2 a0_3
  · by_cases h0 : 0 ≤ a1 ∧ a1 ≤ 10
    · by_cases h1 : 0 ≤ a2 ∧ a2 ≤ 10
      · simp only [if_pos h, if_pos h0, if_pos h1, Option.bind_some, if_true]
      · simp only [if_pos h, if_pos h0, if_neg h1, Option.bind_some, if_true]
    · simp only [if_pos h, if_neg h0, Option.bind_some, if_true]
  · simp only [if_neg h, Option.bind_some, if_true]

end Go.Proofs.Ytmjegiffddffdaa.Pure
