/- The plain side of FnExactCutRect: the printed function answers true at every input; no condition is added. -/
import Derived.Test.YtfjpombdnbjomaaQFnExactCutRectx0
import Derived.Test.YtfjpombdnbjomaaQFnExactCutRectx1
import Derived.Test.YtfjpombdnbjomaaQFnExactCutRectx2
import Derived.Test.YtfjpombdnbjomaaQFnExactCutRectx3
import Derived.Test.YtfjpombdnbjomaaBase
namespace Go.Proofs.Ytfjpombdnbjomaa.Pure
open Go.RowKit Go.Proofs.Ytfjpombdnbjomaa.PFnExactCutRect Go.Proofs.YtfjpombdnbjomaaW.PrintWords Go.Proofs.YtfjpombdnbjomaaW.PrintLast Go.Proofs.YtfjpombdnbjomaaW.PrintMore Go.Proofs.Ytfjpombdnbjomaa.Base
set_option linter.unusedVariables false
set_option linter.unusedSimpArgs false

theorem within_eq (a b c : Int) : impl_within.f a b c = some (decide (b ≤ a ∧ a ≤ c)) := by
  unfold impl_within.f
  by_cases h : b ≤ a
  · rw [if_pos h]; simp [h]
  · rw [if_neg h]; simp [h]

theorem inrange_eq (a b c : Int) : spec_inRange.f a b c = some (decide (b ≤ a ∧ a ≤ c)) := by
  unfold spec_inRange.f
  by_cases h : b ≤ a
  · rw [if_pos h]; simp [h]
  · rw [if_neg h]; simp [h]

theorem impl_ValidRect_eq (x y w h : Int) : impl_ValidRect.f x y w h = some (decide (VR x y w h)) := by
  unfold impl_ValidRect.f
  simp only [within_eq, Option.bind_some, decide_eq_true_eq]
  split
  · split
    · rw [w64 (n := 1000 - w) (by omega) (by omega), w64 (n := 1000 - h) (by omega) (by omega)]
      split
      · refine congrArg some ?_
        rw [decide_eq_decide]
        omega
      · refine congrArg some ?_
        symm
        rw [decide_eq_false_iff_not]
        omega
    · refine congrArg some ?_
      symm
      rw [decide_eq_false_iff_not]
      omega
  · refine congrArg some ?_
    symm
    rw [decide_eq_false_iff_not]
    omega

theorem spec_validRect_eq (x y w h : Int) : spec_validRect.f x y w h = some (decide (VR x y w h)) := by
  unfold spec_validRect.f
  simp only [inrange_eq, Option.bind_some, decide_eq_true_eq]
  split
  · split
    · rw [w64 (n := 1000 - w) (by omega) (by omega), w64 (n := 1000 - h) (by omega) (by omega)]
      split
      · refine congrArg some ?_
        rw [decide_eq_decide]
        omega
      · refine congrArg some ?_
        symm
        rw [decide_eq_false_iff_not]
        omega
    · refine congrArg some ?_
      symm
      rw [decide_eq_false_iff_not]
      omega
  · refine congrArg some ?_
    symm
    rw [decide_eq_false_iff_not]
    omega

theorem impl_CutRect_eq (k : Nat) (x y w h s n : Int) : impl_CutRect.f (k + 1) x y w h s n = some (if VR x y w h ∧ (0 ≤ s ∧ s ≤ 3) ∧ 0 ≤ n ∧ n ≤ 400 then (if s = 0 then (x, y, w, min n h, x, y + min n h, w, h - min n h) else if s = 1 then (x, y + (h - min n h), w, min n h, x, y, w, h - min n h) else if s = 2 then (x, y, min n w, h, x + min n w, y, w - min n w, h) else (x + (w - min n w), y, min n w, h, x, y, w - min n w, h)) else (0, 0, 0, 0, 0, 0, 0, 0)) := by
  unfold impl_CutRect.f impl_Rect_cut.f
  simp only [impl_Rect_cut.j0, impl_ValidRect_eq, within_eq, Option.bind_some, decide_eq_true_eq, mn_eq, beq_iff_eq, if_true]
  by_cases h0 : VR x y w h
  · rw [if_pos h0]
    by_cases h1 : 0 ≤ s ∧ s ≤ 3
    · rw [if_pos h1]
      by_cases h2 : 0 ≤ n ∧ n ≤ 400
      · rw [if_pos h2, if_pos (show VR x y w h ∧ (0 ≤ s ∧ s ≤ 3) ∧ 0 ≤ n ∧ n ≤ 400 from ⟨h0, h1, h2⟩), w64 (n := h - min n h) (by omega) (by omega), w64 (n := w - min n w) (by omega) (by omega), w64 (n := y + (h - min n h)) (by omega) (by omega), w64 (n := x + (w - min n w)) (by omega) (by omega), w64 (n := y + min n h) (by omega) (by omega), w64 (n := x + min n w) (by omega) (by omega)]
        by_cases s0 : s = 0
        · simp only [if_pos s0, Option.bind_some]
        · by_cases s1 : s = 1
          · simp only [if_neg s0, if_pos s1, Option.bind_some]
          · by_cases s2 : s = 2
            · simp only [if_neg s0, if_neg s1, if_pos s2, Option.bind_some]
            · simp only [if_neg s0, if_neg s1, if_neg s2, Option.bind_some]
      · rw [if_neg h2, if_neg (fun q => h2 q.2.2)]
    · rw [if_neg h1, if_neg (fun q => h1 q.2.1)]
  · rw [if_neg h0, if_neg (fun q => h0 q.1)]

theorem spec_CutRect_eq (x y w h s n : Int) : spec_CutRect.f x y w h s n = some (if VR x y w h ∧ (0 ≤ s ∧ s ≤ 3) ∧ 0 ≤ n ∧ n ≤ 400 then (if s = 0 then (x, y, w, min n h, x, y + min n h, w, h - min n h) else if s = 1 then (x, y + (h - min n h), w, min n h, x, y, w, h - min n h) else if s = 2 then (x, y, min n w, h, x + min n w, y, w - min n w, h) else (x + (w - min n w), y, min n w, h, x, y, w - min n w, h)) else (0, 0, 0, 0, 0, 0, 0, 0)) := by
  unfold spec_CutRect.f spec_cut.f spec_validSide.f
  simp only [spec_validRect_eq, inrange_eq, Option.bind_some, decide_eq_true_eq, mn_eq]
  by_cases h0 : VR x y w h
  · rw [if_pos h0]
    by_cases h1 : 0 ≤ s ∧ s ≤ 3
    · rw [if_pos h1]
      by_cases h2 : 0 ≤ n ∧ n ≤ 400
      · rw [if_pos h2, if_pos (show VR x y w h ∧ (0 ≤ s ∧ s ≤ 3) ∧ 0 ≤ n ∧ n ≤ 400 from ⟨h0, h1, h2⟩), w64 (n := h - min n h) (by omega) (by omega), w64 (n := w - min n w) (by omega) (by omega), w64 (n := y + (h - min n h)) (by omega) (by omega), w64 (n := x + (w - min n w)) (by omega) (by omega), w64 (n := y + min n h) (by omega) (by omega), w64 (n := x + min n w) (by omega) (by omega)]
        by_cases s0 : s = 0
        · simp only [if_pos s0, Option.bind_some]
        · by_cases s1 : s = 1
          · simp only [if_neg s0, if_pos s1, Option.bind_some]
          · by_cases s2 : s = 2
            · simp only [if_neg s0, if_neg s1, if_pos s2, Option.bind_some]
            · simp only [if_neg s0, if_neg s1, if_neg s2, Option.bind_some]
      · rw [if_neg h2, if_neg (fun q => h2 q.2.2)]
    · rw [if_neg h1, if_neg (fun q => h1 q.2.1)]
  · rw [if_neg h0, if_neg (fun q => h0 q.1)]

theorem FnExactCutRect (a0_0 a0_1 a0_2 a0_3 : Int) (a1 a2 : Int) (w0_0 : (Lit.int .i64 a0_0).wf = true) (w0_1 : (Lit.int .i64 a0_1).wf = true) (w0_2 : (Lit.int .i64 a0_2).wf = true) (w0_3 : (Lit.int .i64 a0_3).wf = true) (w1 : (Lit.int .i64 a1).wf = true) (w2 : (Lit.int .i64 a2).wf = true) : ∃ k, laws_FnExactCutRect.f k a0_0 a0_1 a0_2 a0_3 a1 a2 = some true := by
  refine ⟨1, ?_⟩
  unfold laws_FnExactCutRect.f laws_toRect.f laws_eqRect.f
  simp only [Option.bind_some, spec_CutRect_eq, impl_CutRect_eq 0, if_true]

end Go.Proofs.Ytfjpombdnbjomaa.Pure
