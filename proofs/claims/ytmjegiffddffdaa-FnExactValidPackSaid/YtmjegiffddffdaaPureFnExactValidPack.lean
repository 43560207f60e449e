/- The plain side of FnExactValidPack: the printed function answers true at every input; no condition is added. -/
import Derived.Test.YtmjegiffddffdaaPFnExactValidPackx0
import Derived.Test.YtmjegiffddffdaaPFnExactValidPackx1
import Derived.Test.YtmjegiffddffdaaBase
namespace Go.Proofs.Ytmjegiffddffdaa.Pure
open Go.RowKit Go.Proofs.Ytmjegiffddffdaa.PFnExactValidPack Go.Proofs.YtmjegiffddffdaaW.PrintWords Go.Proofs.YtmjegiffddffdaaW.PrintLast Go.Proofs.YtmjegiffddffdaaW.PrintMore Go.Proofs.Ytmjegiffddffdaa.Base
set_option linter.unusedVariables false
set_option linter.unusedSimpArgs false

theorem within_eq (a b c : Int) : impl_within.f a b c = some (decide (b ≤ a ∧ a ≤ c)) := by
  unfold impl_within.f
  by_cases h : b ≤ a
  · rw [if_pos h]; simp [h]
  · rw [if_neg h]; simp [h]

theorem inrange_eq (a b c : Int) : spec_inRange.f a b c = some (decide (b ≤ a ∧ a ≤ c)) := by
  unfold spec_inRange.f
  by_cases h : b ≤ a
  · rw [if_pos h]; simp [h]
  · rw [if_neg h]; simp [h]

theorem impl_ValidPack_eq (w h s : Int) (fx fy ex : Bool) (a px py : Int) : impl_ValidPack.f w h s fx fy ex a px py = some (decide (VK w h s a px py)) := by
  unfold impl_ValidPack.f
  simp only [within_eq, Option.bind_some, decide_eq_true_eq]
  repeat' split
  all_goals
    refine congrArg some ?_
    first
    | (rw [decide_eq_decide]; omega)
    | (symm; rw [decide_eq_false_iff_not]; omega)

theorem spec_validPack_eq (w h s : Int) (fx fy ex : Bool) (a px py : Int) : spec_validPack.f w h s fx fy ex a px py = some (decide (VK w h s a px py)) := by
  unfold spec_validPack.f spec_validSide.f spec_validAnchor.f
  simp only [inrange_eq, Option.bind_some, decide_eq_true_eq]
  repeat' split
  all_goals
    refine congrArg some ?_
    first
    | (rw [decide_eq_decide]; omega)
    | (symm; rw [decide_eq_false_iff_not]; omega)

theorem spec_ValidPack_eq (w h s : Int) (fx fy ex : Bool) (a px py : Int) : spec_ValidPack.f w h s fx fy ex a px py = some (decide (VK w h s a px py)) := by
  unfold spec_ValidPack.f
  rw [spec_validPack_eq, Option.bind_some]

theorem FnExactValidPack (a0_0 a0_1 a0_2 : Int) (a0_3 a0_4 a0_5 : Bool) (a0_6 a0_7 a0_8 : Int) (w0_0 : (Lit.int .i64 a0_0).wf = true) (w0_1 : (Lit.int .i64 a0_1).wf = true) (w0_2 : (Lit.int .i64 a0_2).wf = true) (w0_6 : (Lit.int .i64 a0_6).wf = true) (w0_7 : (Lit.int .i64 a0_7).wf = true) (w0_8 : (Lit.int .i64 a0_8).wf = true) : laws_FnExactValidPack.f a0_0 a0_1 a0_2 a0_3 a0_4 a0_5 a0_6 a0_7 a0_8 = some true := by
  unfold laws_FnExactValidPack.f laws_toPack.f
  simp only [Option.bind_some, spec_ValidPack_eq, impl_ValidPack_eq]
  simp

end Go.Proofs.Ytmjegiffddffdaa.Pure
