/- The plain side of FnExactSeeLine: the printed function answers true at every input; no condition is added. -/
import Derived.Test.YtkecldjkakkgoaaQFnExactSeeLinex0
import Derived.Test.YtkecldjkakkgoaaQFnExactSeeLinex1
import Derived.Test.YtkecldjkakkgoaaQFnExactSeeLinex2
import Derived.Test.YtkecldjkakkgoaaBase
namespace Go.Proofs.Ytkecldjkakkgoaa.Pure
open Go.RowKit Go.Proofs.Ytkecldjkakkgoaa.PFnExactSeeLine Go.Proofs.YtkecldjkakkgoaaW.PrintWords Go.Proofs.YtkecldjkakkgoaaW.PrintLast Go.Proofs.YtkecldjkakkgoaaW.PrintMore Go.Proofs.Ytkecldjkakkgoaa.Base
set_option linter.unusedVariables false
set_option linter.unusedSimpArgs false

theorem within_eq (a b c : Int) : impl_within.f a b c = some (decide (b ≤ a ∧ a ≤ c)) := by
  unfold impl_within.f
  by_cases h : b ≤ a
  · rw [if_pos h]; simp [h]
  · rw [if_neg h]; simp [h]

theorem inrange_eq (a b c : Int) : spec_inRange.f a b c = some (decide (b ≤ a ∧ a ≤ c)) := by
  unfold spec_inRange.f
  by_cases h : b ≤ a
  · rw [if_pos h]; simp [h]
  · rw [if_neg h]; simp [h]

theorem impl_ValidView_eq (t p f : Int) : impl_ValidView.f t p f = some (decide (VV t p f)) := by
  unfold impl_ValidView.f impl_View_most.f
  simp only [within_eq, Option.bind_some, decide_eq_true_eq]
  split
  · split
    · rw [w64 (n := t - p) (by omega) (by omega), mx_eq]
      refine congrArg some ?_
      rw [decide_eq_decide]
      omega
    · refine congrArg some ?_
      symm
      rw [decide_eq_false_iff_not]
      omega
  · refine congrArg some ?_
    symm
    rw [decide_eq_false_iff_not]
    omega

theorem spec_validView_eq (t p f : Int) : spec_validView.f t p f = some (decide (VV t p f)) := by
  unfold spec_validView.f
  simp only [inrange_eq, Option.bind_some, decide_eq_true_eq]
  split
  · split
    · rw [w64 (n := t - p) (by omega) (by omega), mx_eq]
      refine congrArg some ?_
      rw [decide_eq_decide]
      omega
    · refine congrArg some ?_
      symm
      rw [decide_eq_false_iff_not]
      omega
  · refine congrArg some ?_
    symm
    rw [decide_eq_false_iff_not]
    omega

theorem impl_SeeLine_eq (t p f n : Int) : impl_SeeLine.f t p f n = some (if VV t p f ∧ 0 ≤ n ∧ n ≤ t - 1 then (t, p, clampV t p (min (max f (n - p + 1)) n)) else (0, 0, 0)) := by
  unfold impl_SeeLine.f impl_View_at.f impl_View_most.f
  simp only [impl_ValidView_eq, within_eq, Option.bind_some, decide_eq_true_eq]
  by_cases h : VV t p f
  · rw [if_pos h, w64 (n := t - 1) (by omega) (by omega)]
    by_cases h0 : 0 ≤ n ∧ n ≤ t - 1
    · rw [if_pos h0, if_pos ⟨h, h0⟩, w64 (n := n - p) (by omega) (by omega), w64 (n := n - p + 1) (by omega) (by omega), w64 (n := t - p) (by omega) (by omega)]
      simp only [mn_eq, mx_eq, clampV_eq]
    · rw [if_neg h0, if_neg (fun q => h0 q.2)]
  · rw [if_neg h, if_neg (fun q => h q.1)]

theorem spec_SeeLine_eq (k : Nat) (t p f n : Int) : spec_SeeLine.f (k + 1) t p f n = some (if VV t p f ∧ 0 ≤ n ∧ n ≤ t - 1 then (t, p, clampV t p (min (max f (n - p + 1)) n)) else (0, 0, 0)) := by
  unfold spec_SeeLine.f
  simp only [spec_SeeLine.j0, spec_clamped.f, spec_validView_eq, inrange_eq, Option.bind_some, decide_eq_true_eq, if_true]
  by_cases h : VV t p f
  · rw [if_pos h, w64 (n := t - 1) (by omega) (by omega)]
    by_cases h0 : 0 ≤ n ∧ n ≤ t - 1
    · have hq : VV t p f ∧ 0 ≤ n ∧ n ≤ t - 1 := ⟨h, h0⟩
      rw [if_neg (by rw [decide_eq_true h0]; decide), if_pos hq, w64 (n := n - p) (by omega) (by omega), w64 (n := n - p + 1) (by omega) (by omega), w64 (n := t - p) (by omega) (by omega), w64 (n := f + p) (by omega) (by omega)]
      simp only [mn_eq, mx_eq]
      unfold clampV
      split
      · rw [show min (max f (n - p + 1)) n = n from by omega]
      · split
        · rw [show min (max f (n - p + 1)) n = n - p + 1 from by omega]
        · rw [show max 0 (min (min (max f (n - p + 1)) n) (t - p)) = f from by omega]
    · rw [if_pos (by rw [decide_eq_false h0]; decide), if_neg (fun q => h0 q.2)]
  · rw [if_neg h, if_neg (fun q => h q.1)]

theorem FnExactSeeLine (a0_0 a0_1 a0_2 a1 : Int) (w0_0 : (Lit.int .i64 a0_0).wf = true) (w0_1 : (Lit.int .i64 a0_1).wf = true) (w0_2 : (Lit.int .i64 a0_2).wf = true) (w1 : (Lit.int .i64 a1).wf = true) : ∃ k, laws_FnExactSeeLine.f k a0_0 a0_1 a0_2 a1 = some true := by
  refine ⟨1, ?_⟩
  unfold laws_FnExactSeeLine.f laws_toView.f laws_eqView.f
  simp only [Option.bind_some, spec_SeeLine_eq, impl_SeeLine_eq, if_true]

end Go.Proofs.Ytkecldjkakkgoaa.Pure
