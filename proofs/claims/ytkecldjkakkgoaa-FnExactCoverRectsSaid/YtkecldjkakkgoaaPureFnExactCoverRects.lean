/- The plain side of FnExactCoverRects: the printed function answers true at every input; no condition is added. -/
import Derived.Test.YtkecldjkakkgoaaQFnExactCoverRectsx0
import Derived.Test.YtkecldjkakkgoaaQFnExactCoverRectsx1
import Derived.Test.YtkecldjkakkgoaaQFnExactCoverRectsx2
import Derived.Test.YtkecldjkakkgoaaBase
namespace Go.Proofs.Ytkecldjkakkgoaa.Pure
open Go.RowKit Go.Proofs.Ytkecldjkakkgoaa.PFnExactCoverRects Go.Proofs.YtkecldjkakkgoaaW.PrintWords Go.Proofs.YtkecldjkakkgoaaW.PrintLast Go.Proofs.YtkecldjkakkgoaaW.PrintMore Go.Proofs.Ytkecldjkakkgoaa.Base
set_option linter.unusedVariables false
set_option linter.unusedSimpArgs false

theorem within_eq (a b c : Int) : impl_within.f a b c = some (decide (b ≤ a ∧ a ≤ c)) := by
  unfold impl_within.f
  by_cases h : b ≤ a
  · rw [if_pos h]; simp [h]
  · rw [if_neg h]; simp [h]

theorem inrange_eq (a b c : Int) : spec_inRange.f a b c = some (decide (b ≤ a ∧ a ≤ c)) := by
  unfold spec_inRange.f
  by_cases h : b ≤ a
  · rw [if_pos h]; simp [h]
  · rw [if_neg h]; simp [h]

theorem impl_ValidRect_eq (x y w h : Int) : impl_ValidRect.f x y w h = some (decide (VR x y w h)) := by
  unfold impl_ValidRect.f
  simp only [within_eq, Option.bind_some, decide_eq_true_eq]
  split
  · split
    · rw [w64 (n := 1000 - w) (by omega) (by omega), w64 (n := 1000 - h) (by omega) (by omega)]
      split
      · refine congrArg some ?_
        rw [decide_eq_decide]
        omega
      · refine congrArg some ?_
        symm
        rw [decide_eq_false_iff_not]
        omega
    · refine congrArg some ?_
      symm
      rw [decide_eq_false_iff_not]
      omega
  · refine congrArg some ?_
    symm
    rw [decide_eq_false_iff_not]
    omega

theorem spec_validRect_eq (x y w h : Int) : spec_validRect.f x y w h = some (decide (VR x y w h)) := by
  unfold spec_validRect.f
  simp only [inrange_eq, Option.bind_some, decide_eq_true_eq]
  split
  · split
    · rw [w64 (n := 1000 - w) (by omega) (by omega), w64 (n := 1000 - h) (by omega) (by omega)]
      split
      · refine congrArg some ?_
        rw [decide_eq_decide]
        omega
      · refine congrArg some ?_
        symm
        rw [decide_eq_false_iff_not]
        omega
    · refine congrArg some ?_
      symm
      rw [decide_eq_false_iff_not]
      omega
  · refine congrArg some ?_
    symm
    rw [decide_eq_false_iff_not]
    omega

theorem impl_CoverRects_eq (k : Nat) (x y w h x' y' w' h' : Int) : impl_CoverRects.f (k + 1) x y w h x' y' w' h' = some (if VR x y w h ∧ VR x' y' w' h' ∧ VR (min x x') (min y y') (max (x + w) (x' + w') - min x x') (max (y + h) (y' + h') - min y y') then (min x x', min y y', max (x + w) (x' + w') - min x x', max (y + h) (y' + h') - min y y', true) else (0, 0, 0, 0, false)) := by
  unfold impl_CoverRects.f
  simp only [impl_CoverRects.j0, impl_ValidRect_eq, Option.bind_some, decide_eq_true_eq, mn_eq, mx_eq, if_true]
  by_cases h0 : VR x y w h
  · rw [if_pos h0]
    by_cases h1 : VR x' y' w' h'
    · rw [if_neg (by rw [decide_eq_true h1]; decide), w64 (n := x + w) (by omega) (by omega), w64 (n := x' + w') (by omega) (by omega), w64 (n := y + h) (by omega) (by omega), w64 (n := y' + h') (by omega) (by omega), w64 (n := max (x + w) (x' + w') - min x x') (by omega) (by omega), w64 (n := max (y + h) (y' + h') - min y y') (by omega) (by omega)]
      by_cases h2 : VR (min x x') (min y y') (max (x + w) (x' + w') - min x x') (max (y + h) (y' + h') - min y y')
      · rw [if_pos h2, if_pos ⟨h0, h1, h2⟩]
      · rw [if_neg h2, if_neg (fun q => h2 q.2.2)]
    · rw [if_pos (by rw [decide_eq_false h1]; decide), if_neg (fun q => h1 q.2.1)]
  · rw [if_neg h0, if_neg (fun q => h0 q.1)]

theorem spec_CoverRects_eq (k : Nat) (x y w h x' y' w' h' : Int) : spec_CoverRects.f (k + 1) x y w h x' y' w' h' = some (if VR x y w h ∧ VR x' y' w' h' ∧ VR (min x x') (min y y') (max (x + w) (x' + w') - min x x') (max (y + h) (y' + h') - min y y') then (min x x', min y y', max (x + w) (x' + w') - min x x', max (y + h) (y' + h') - min y y', true) else (0, 0, 0, 0, false)) := by
  unfold spec_CoverRects.f
  simp only [spec_CoverRects.j0, spec_validRect_eq, Option.bind_some, decide_eq_true_eq, mn_eq, mx_eq, if_true]
  by_cases h0 : VR x y w h
  · rw [if_pos h0]
    by_cases h1 : VR x' y' w' h'
    · rw [if_neg (by rw [decide_eq_true h1]; decide), w64 (n := x + w) (by omega) (by omega), w64 (n := x' + w') (by omega) (by omega), w64 (n := y + h) (by omega) (by omega), w64 (n := y' + h') (by omega) (by omega), w64 (n := max (x + w) (x' + w') - min x x') (by omega) (by omega), w64 (n := max (y + h) (y' + h') - min y y') (by omega) (by omega)]
      by_cases h2 : VR (min x x') (min y y') (max (x + w) (x' + w') - min x x') (max (y + h) (y' + h') - min y y')
      · rw [if_pos h2, if_pos ⟨h0, h1, h2⟩]
      · rw [if_neg h2, if_neg (fun q => h2 q.2.2)]
    · rw [if_pos (by rw [decide_eq_false h1]; decide), if_neg (fun q => h1 q.2.1)]
  · rw [if_neg h0, if_neg (fun q => h0 q.1)]

theorem FnExactCoverRects (a0_0 a0_1 a0_2 a0_3 : Int) (a1_0 a1_1 a1_2 a1_3 : Int) (w0_0 : (Lit.int .i64 a0_0).wf = true) (w0_1 : (Lit.int .i64 a0_1).wf = true) (w0_2 : (Lit.int .i64 a0_2).wf = true) (w0_3 : (Lit.int .i64 a0_3).wf = true) (w1_0 : (Lit.int .i64 a1_0).wf = true) (w1_1 : (Lit.int .i64 a1_1).wf = true) (w1_2 : (Lit.int .i64 a1_2).wf = true) (w1_3 : (Lit.int .i64 a1_3).wf = true) : ∃ k, laws_FnExactCoverRects.f k a0_0 a0_1 a0_2 a0_3 a1_0 a1_1 a1_2 a1_3 = some true := by
  refine ⟨1, ?_⟩
  unfold laws_FnExactCoverRects.f laws_toRect.f laws_eqRect.f
  simp only [Option.bind_some, spec_CoverRects_eq, impl_CoverRects_eq, if_true, bne_self_false]
  rfl

end Go.Proofs.Ytkecldjkakkgoaa.Pure
