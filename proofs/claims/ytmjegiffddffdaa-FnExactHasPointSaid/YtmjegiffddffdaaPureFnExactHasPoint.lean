/- The plain side of FnExactHasPoint: the printed function answers true at every input; no condition is added. -/
import Derived.Test.YtmjegiffddffdaaPFnExactHasPointx0
import Derived.Test.YtmjegiffddffdaaPFnExactHasPointx1
import Derived.Test.YtmjegiffddffdaaBase
namespace Go.Proofs.Ytmjegiffddffdaa.Pure
open Go.RowKit Go.Proofs.Ytmjegiffddffdaa.PFnExactHasPoint Go.Proofs.YtmjegiffddffdaaW.PrintWords Go.Proofs.YtmjegiffddffdaaW.PrintLast Go.Proofs.YtmjegiffddffdaaW.PrintMore Go.Proofs.Ytmjegiffddffdaa.Base
set_option linter.unusedVariables false
set_option linter.unusedSimpArgs false

theorem within_eq (a b c : Int) : impl_within.f a b c = some (decide (b ≤ a ∧ a ≤ c)) := by
  unfold impl_within.f
  by_cases h : b ≤ a
  · rw [if_pos h]; simp [h]
  · rw [if_neg h]; simp [h]

theorem inrange_eq (a b c : Int) : spec_inRange.f a b c = some (decide (b ≤ a ∧ a ≤ c)) := by
  unfold spec_inRange.f
  by_cases h : b ≤ a
  · rw [if_pos h]; simp [h]
  · rw [if_neg h]; simp [h]

theorem impl_ValidRect_eq (x y w h : Int) : impl_ValidRect.f x y w h = some (decide (VR x y w h)) := by
  unfold impl_ValidRect.f
  simp only [within_eq, Option.bind_some, decide_eq_true_eq]
  split
  · split
    · rw [w64 (n := 1000 - w) (by omega) (by omega), w64 (n := 1000 - h) (by omega) (by omega)]
      split
      · refine congrArg some ?_
        rw [decide_eq_decide]
        omega
      · refine congrArg some ?_
        symm
        rw [decide_eq_false_iff_not]
        omega
    · refine congrArg some ?_
      symm
      rw [decide_eq_false_iff_not]
      omega
  · refine congrArg some ?_
    symm
    rw [decide_eq_false_iff_not]
    omega

theorem spec_validRect_eq (x y w h : Int) : spec_validRect.f x y w h = some (decide (VR x y w h)) := by
  unfold spec_validRect.f
  simp only [inrange_eq, Option.bind_some, decide_eq_true_eq]
  split
  · split
    · rw [w64 (n := 1000 - w) (by omega) (by omega), w64 (n := 1000 - h) (by omega) (by omega)]
      split
      · refine congrArg some ?_
        rw [decide_eq_decide]
        omega
      · refine congrArg some ?_
        symm
        rw [decide_eq_false_iff_not]
        omega
    · refine congrArg some ?_
      symm
      rw [decide_eq_false_iff_not]
      omega
  · refine congrArg some ?_
    symm
    rw [decide_eq_false_iff_not]
    omega

theorem impl_HasPoint_eq (x y w h px py : Int) : impl_HasPoint.f x y w h px py = some (decide (VR x y w h ∧ x ≤ px ∧ px < x + w ∧ y ≤ py ∧ py < y + h)) := by
  unfold impl_HasPoint.f impl_Rect_has.f
  simp only [impl_ValidRect_eq, Option.bind_some, decide_eq_true_eq]
  by_cases hv : VR x y w h
  · rw [if_pos hv, w64 (n := x + w) (by omega) (by omega), w64 (n := y + h) (by omega) (by omega)]
    repeat' split
    all_goals
      simp only [Option.bind_some]
      refine congrArg some ?_
      first
      | (rw [decide_eq_decide]; omega)
      | (symm; rw [decide_eq_false_iff_not]; omega)
  · rw [if_neg hv]
    refine congrArg some ?_
    symm
    rw [decide_eq_false_iff_not]
    omega

theorem spec_HasPoint_eq (x y w h px py : Int) : spec_HasPoint.f x y w h px py = some (decide (VR x y w h ∧ x ≤ px ∧ px < x + w ∧ y ≤ py ∧ py < y + h)) := by
  unfold spec_HasPoint.f spec_hasPoint.f
  simp only [spec_validRect_eq, inrange_eq, Option.bind_some, decide_eq_true_eq]
  by_cases hv : VR x y w h
  · rw [if_pos hv, w64 (n := x + w) (by omega) (by omega), w64 (n := y + h) (by omega) (by omega)]
    rw [w64 (n := x + w - 1) (by omega) (by omega), w64 (n := y + h - 1) (by omega) (by omega)]
    repeat' split
    all_goals
      simp only [Option.bind_some]
      refine congrArg some ?_
      first
      | (rw [decide_eq_decide]; omega)
      | (symm; rw [decide_eq_false_iff_not]; omega)
  · rw [if_neg hv]
    refine congrArg some ?_
    symm
    rw [decide_eq_false_iff_not]
    omega

theorem FnExactHasPoint (a0_0 a0_1 a0_2 a0_3 : Int) (a1 a2 : Int) (w0_0 : (Lit.int .i64 a0_0).wf = true) (w0_1 : (Lit.int .i64 a0_1).wf = true) (w0_2 : (Lit.int .i64 a0_2).wf = true) (w0_3 : (Lit.int .i64 a0_3).wf = true) (w1 : (Lit.int .i64 a1).wf = true) (w2 : (Lit.int .i64 a2).wf = true) : laws_FnExactHasPoint.f a0_0 a0_1 a0_2 a0_3 a1 a2 = some true := by
  unfold laws_FnExactHasPoint.f laws_toRect.f
  simp only [Option.bind_some, spec_HasPoint_eq, impl_HasPoint_eq]
  simp

end Go.Proofs.Ytmjegiffddffdaa.Pure
