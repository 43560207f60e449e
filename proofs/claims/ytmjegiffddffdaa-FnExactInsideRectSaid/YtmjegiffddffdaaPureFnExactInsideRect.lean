/- The plain side of FnExactInsideRect: the printed function answers true at every input; no condition is added. -/
import Derived.Test.YtmjegiffddffdaaPFnExactInsideRectx0
import Derived.Test.YtmjegiffddffdaaPFnExactInsideRectx1
import Derived.Test.YtmjegiffddffdaaPFnExactInsideRectx2
import Derived.Test.YtmjegiffddffdaaBase
namespace Go.Proofs.Ytmjegiffddffdaa.Pure
open Go.RowKit Go.Proofs.Ytmjegiffddffdaa.PFnExactInsideRect Go.Proofs.YtmjegiffddffdaaW.PrintWords Go.Proofs.YtmjegiffddffdaaW.PrintLast Go.Proofs.YtmjegiffddffdaaW.PrintMore Go.Proofs.Ytmjegiffddffdaa.Base
set_option linter.unusedVariables false
set_option linter.unusedSimpArgs false

theorem within_eq (a b c : Int) : impl_within.f a b c = some (decide (b ≤ a ∧ a ≤ c)) := by
  unfold impl_within.f
  by_cases h : b ≤ a
  · rw [if_pos h]; simp [h]
  · rw [if_neg h]; simp [h]

theorem inrange_eq (a b c : Int) : spec_inRange.f a b c = some (decide (b ≤ a ∧ a ≤ c)) := by
  unfold spec_inRange.f
  by_cases h : b ≤ a
  · rw [if_pos h]; simp [h]
  · rw [if_neg h]; simp [h]

theorem impl_ValidRect_eq (x y w h : Int) : impl_ValidRect.f x y w h = some (decide (VR x y w h)) := by
  unfold impl_ValidRect.f
  simp only [within_eq, Option.bind_some, decide_eq_true_eq]
  split
  · split
    · rw [w64 (n := 1000 - w) (by omega) (by omega), w64 (n := 1000 - h) (by omega) (by omega)]
      split
      · refine congrArg some ?_
        rw [decide_eq_decide]
        omega
      · refine congrArg some ?_
        symm
        rw [decide_eq_false_iff_not]
        omega
    · refine congrArg some ?_
      symm
      rw [decide_eq_false_iff_not]
      omega
  · refine congrArg some ?_
    symm
    rw [decide_eq_false_iff_not]
    omega

theorem spec_validRect_eq (x y w h : Int) : spec_validRect.f x y w h = some (decide (VR x y w h)) := by
  unfold spec_validRect.f
  simp only [inrange_eq, Option.bind_some, decide_eq_true_eq]
  split
  · split
    · rw [w64 (n := 1000 - w) (by omega) (by omega), w64 (n := 1000 - h) (by omega) (by omega)]
      split
      · refine congrArg some ?_
        rw [decide_eq_decide]
        omega
      · refine congrArg some ?_
        symm
        rw [decide_eq_false_iff_not]
        omega
    · refine congrArg some ?_
      symm
      rw [decide_eq_false_iff_not]
      omega
  · refine congrArg some ?_
    symm
    rw [decide_eq_false_iff_not]
    omega

theorem impl_InsideRect_eq (x y w h x' y' w' h' : Int) : impl_InsideRect.f x y w h x' y' w' h' = some (decide (VR x y w h ∧ VR x' y' w' h' ∧ IN x y w h x' y' w' h')) := by
  unfold impl_InsideRect.f impl_Rect_inside.f
  simp only [impl_ValidRect_eq, Option.bind_some, decide_eq_true_eq]
  by_cases hv : VR x y w h
  · by_cases hv' : VR x' y' w' h'
    · rw [if_pos hv, if_pos hv', w64 (n := x + w) (by omega) (by omega), w64 (n := y + h) (by omega) (by omega), w64 (n := x' + w') (by omega) (by omega), w64 (n := y' + h') (by omega) (by omega)]
      repeat' split
      all_goals
        simp only [Option.bind_some]
        refine congrArg some ?_
        first
        | (rw [decide_eq_decide]; omega)
        | (symm; rw [decide_eq_false_iff_not]; omega)
    · rw [if_pos hv, if_neg hv']
      refine congrArg some ?_
      symm
      rw [decide_eq_false_iff_not]
      omega
  · rw [if_neg hv]
    refine congrArg some ?_
    symm
    rw [decide_eq_false_iff_not]
    omega

theorem spec_InsideRect_eq (x y w h x' y' w' h' : Int) : spec_InsideRect.f x y w h x' y' w' h' = some (decide (VR x y w h ∧ VR x' y' w' h' ∧ IN x y w h x' y' w' h')) := by
  unfold spec_InsideRect.f spec_inside.f
  simp only [spec_validRect_eq, Option.bind_some, decide_eq_true_eq]
  by_cases hv : VR x y w h
  · by_cases hv' : VR x' y' w' h'
    · rw [if_pos hv, if_pos hv', w64 (n := x + w) (by omega) (by omega), w64 (n := y + h) (by omega) (by omega), w64 (n := x' + w') (by omega) (by omega), w64 (n := y' + h') (by omega) (by omega)]
      repeat' split
      all_goals
        simp only [Option.bind_some]
        refine congrArg some ?_
        first
        | (rw [decide_eq_decide]; omega)
        | (symm; rw [decide_eq_false_iff_not]; omega)
    · rw [if_pos hv, if_neg hv']
      refine congrArg some ?_
      symm
      rw [decide_eq_false_iff_not]
      omega
  · rw [if_neg hv]
    refine congrArg some ?_
    symm
    rw [decide_eq_false_iff_not]
    omega

theorem FnExactInsideRect (a0_0 a0_1 a0_2 a0_3 : Int) (a1_0 a1_1 a1_2 a1_3 : Int) (w0_0 : (Lit.int .i64 a0_0).wf = true) (w0_1 : (Lit.int .i64 a0_1).wf = true) (w0_2 : (Lit.int .i64 a0_2).wf = true) (w0_3 : (Lit.int .i64 a0_3).wf = true) (w1_0 : (Lit.int .i64 a1_0).wf = true) (w1_1 : (Lit.int .i64 a1_1).wf = true) (w1_2 : (Lit.int .i64 a1_2).wf = true) (w1_3 : (Lit.int .i64 a1_3).wf = true) : laws_FnExactInsideRect.f a0_0 a0_1 a0_2 a0_3 a1_0 a1_1 a1_2 a1_3 = some true := by
  unfold laws_FnExactInsideRect.f laws_toRect.f
  simp only [Option.bind_some, spec_InsideRect_eq, impl_InsideRect_eq]
  simp

end Go.Proofs.Ytmjegiffddffdaa.Pure
