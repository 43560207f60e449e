/- The plain side of FnExactMoveTo: the printed function answers true at every input; no condition is added. -/
import Derived.Test.YtkecldjkakkgoaaPFnExactMoveTox0
import Derived.Test.YtkecldjkakkgoaaPFnExactMoveTox1
import Derived.Test.YtkecldjkakkgoaaPFnExactMoveTox2
import Derived.Test.YtkecldjkakkgoaaBase
namespace Go.Proofs.Ytkecldjkakkgoaa.Pure
open Go.RowKit Go.Proofs.Ytkecldjkakkgoaa.PFnExactMoveTo Go.Proofs.YtkecldjkakkgoaaW.PrintWords Go.Proofs.YtkecldjkakkgoaaW.PrintLast Go.Proofs.YtkecldjkakkgoaaW.PrintMore Go.Proofs.Ytkecldjkakkgoaa.Base
set_option linter.unusedVariables false
set_option linter.unusedSimpArgs false

theorem within_eq (a b c : Int) : impl_within.f a b c = some (decide (b ≤ a ∧ a ≤ c)) := by
  unfold impl_within.f
  by_cases h : b ≤ a
  · rw [if_pos h]; simp [h]
  · rw [if_neg h]; simp [h]

theorem inrange_eq (a b c : Int) : spec_inRange.f a b c = some (decide (b ≤ a ∧ a ≤ c)) := by
  unfold spec_inRange.f
  by_cases h : b ≤ a
  · rw [if_pos h]; simp [h]
  · rw [if_neg h]; simp [h]

theorem impl_ValidView_eq (t p f : Int) : impl_ValidView.f t p f = some (decide (VV t p f)) := by
  unfold impl_ValidView.f impl_View_most.f
  simp only [within_eq, Option.bind_some, decide_eq_true_eq]
  split
  · split
    · rw [w64 (n := t - p) (by omega) (by omega), mx_eq]
      refine congrArg some ?_
      rw [decide_eq_decide]
      omega
    · refine congrArg some ?_
      symm
      rw [decide_eq_false_iff_not]
      omega
  · refine congrArg some ?_
    symm
    rw [decide_eq_false_iff_not]
    omega

theorem spec_validView_eq (t p f : Int) : spec_validView.f t p f = some (decide (VV t p f)) := by
  unfold spec_validView.f
  simp only [inrange_eq, Option.bind_some, decide_eq_true_eq]
  split
  · split
    · rw [w64 (n := t - p) (by omega) (by omega), mx_eq]
      refine congrArg some ?_
      rw [decide_eq_decide]
      omega
    · refine congrArg some ?_
      symm
      rw [decide_eq_false_iff_not]
      omega
  · refine congrArg some ?_
    symm
    rw [decide_eq_false_iff_not]
    omega

theorem impl_MoveTo_eq (t p f n : Int) : impl_MoveTo.f t p f n = some (if VV t p f ∧ 0 ≤ n ∧ n ≤ 1000 then (t, p, clampV t p (t * n / 1000)) else (0, 0, 0)) := by
  unfold impl_MoveTo.f impl_View_at.f impl_View_most.f
  simp only [impl_ValidView_eq, within_eq, Option.bind_some, decide_eq_true_eq]
  by_cases h : VV t p f
  · by_cases h0 : 0 ≤ n ∧ n ≤ 1000
    · have hm := mul_range (a := n) (b := t) (A := 1000) (B := 500) (by omega) (by omega) (by omega) (by omega)
      rw [if_pos h, if_pos h0, if_pos ⟨h, h0⟩, w64 (n := n * t) (by omega) (by omega), td2 hm.1, w64 (n := n * t / 1000) (by omega) (by omega), w64 (n := t - p) (by omega) (by omega), mn_eq, mx_eq, mx_eq, clampV_eq, Int.mul_comm n t]
    · rw [if_pos h, if_neg h0, if_neg (fun q => h0 q.2)]
  · rw [if_neg h, if_neg (fun q => h q.1)]

theorem spec_MoveTo_eq (k : Nat) (t p f n : Int) : spec_MoveTo.f (k + 1) t p f n = some (if VV t p f ∧ 0 ≤ n ∧ n ≤ 1000 then (t, p, clampV t p (t * n / 1000)) else (0, 0, 0)) := by
  unfold spec_MoveTo.f
  simp only [spec_MoveTo.j0, spec_part.f, spec_clamped.f, spec_validView_eq, inrange_eq, Option.bind_some, decide_eq_true_eq, if_true]
  by_cases h : VV t p f
  · by_cases h0 : 0 ≤ n ∧ n ≤ 1000
    · have hm := mul_range (a := t) (b := n) (A := 500) (B := 1000) (by omega) (by omega) (by omega) (by omega)
      rw [if_pos h, if_neg (by rw [decide_eq_true h0]; decide), if_pos ⟨h, h0⟩, w64 (n := t * n) (by omega) (by omega), td2 hm.1, w64 (n := t * n / 1000) (by omega) (by omega), w64 (n := t - p) (by omega) (by omega), mn_eq, mx_eq]
    · rw [if_pos h, if_pos (by rw [decide_eq_false h0]; decide), if_neg (fun q => h0 q.2)]
  · rw [if_neg h, if_neg (fun q => h q.1)]

theorem FnExactMoveTo (a0_0 a0_1 a0_2 a1 : Int) (w0_0 : (Lit.int .i64 a0_0).wf = true) (w0_1 : (Lit.int .i64 a0_1).wf = true) (w0_2 : (Lit.int .i64 a0_2).wf = true) (w1 : (Lit.int .i64 a1).wf = true) : ∃ k, laws_FnExactMoveTo.f k a0_0 a0_1 a0_2 a1 = some true := by
  refine ⟨1, ?_⟩
  unfold laws_FnExactMoveTo.f laws_toView.f laws_eqView.f
  simp only [Option.bind_some, spec_MoveTo_eq, impl_MoveTo_eq, if_true]

end Go.Proofs.Ytkecldjkakkgoaa.Pure
