/- The plain side of FnExactAnchorRect: the printed function answers true at every input; no condition is added. -/
import Derived.Test.YtkecldjkakkgoaaPFnExactAnchorRectx0
import Derived.Test.YtkecldjkakkgoaaPFnExactAnchorRectx1
import Derived.Test.YtkecldjkakkgoaaPFnExactAnchorRectx2
import Derived.Test.YtkecldjkakkgoaaBase
namespace Go.Proofs.Ytkecldjkakkgoaa.Pure
open Go.RowKit Go.Proofs.Ytkecldjkakkgoaa.PFnExactAnchorRect Go.Proofs.YtkecldjkakkgoaaW.PrintWords Go.Proofs.YtkecldjkakkgoaaW.PrintLast Go.Proofs.YtkecldjkakkgoaaW.PrintMore Go.Proofs.Ytkecldjkakkgoaa.Base
set_option linter.unusedVariables false
set_option linter.unusedSimpArgs false

theorem within_eq (a b c : Int) : impl_within.f a b c = some (decide (b ≤ a ∧ a ≤ c)) := by
  unfold impl_within.f
  by_cases h : b ≤ a
  · rw [if_pos h]; simp [h]
  · rw [if_neg h]; simp [h]

theorem inrange_eq (a b c : Int) : spec_inRange.f a b c = some (decide (b ≤ a ∧ a ≤ c)) := by
  unfold spec_inRange.f
  by_cases h : b ≤ a
  · rw [if_pos h]; simp [h]
  · rw [if_neg h]; simp [h]

theorem impl_ValidRect_eq (x y w h : Int) : impl_ValidRect.f x y w h = some (decide (VR x y w h)) := by
  unfold impl_ValidRect.f
  simp only [within_eq, Option.bind_some, decide_eq_true_eq]
  split
  · split
    · rw [w64 (n := 1000 - w) (by omega) (by omega), w64 (n := 1000 - h) (by omega) (by omega)]
      split
      · refine congrArg some ?_
        rw [decide_eq_decide]
        omega
      · refine congrArg some ?_
        symm
        rw [decide_eq_false_iff_not]
        omega
    · refine congrArg some ?_
      symm
      rw [decide_eq_false_iff_not]
      omega
  · refine congrArg some ?_
    symm
    rw [decide_eq_false_iff_not]
    omega

theorem spec_validRect_eq (x y w h : Int) : spec_validRect.f x y w h = some (decide (VR x y w h)) := by
  unfold spec_validRect.f
  simp only [inrange_eq, Option.bind_some, decide_eq_true_eq]
  split
  · split
    · rw [w64 (n := 1000 - w) (by omega) (by omega), w64 (n := 1000 - h) (by omega) (by omega)]
      split
      · refine congrArg some ?_
        rw [decide_eq_decide]
        omega
      · refine congrArg some ?_
        symm
        rw [decide_eq_false_iff_not]
        omega
    · refine congrArg some ?_
      symm
      rw [decide_eq_false_iff_not]
      omega
  · refine congrArg some ?_
    symm
    rw [decide_eq_false_iff_not]
    omega

theorem impl_AnchorRect_eq (x y w h a b c : Int) : impl_AnchorRect.f x y w h a b c = some (if VR x y w h ∧ (0 ≤ a ∧ a ≤ 400) ∧ (0 ≤ b ∧ b ≤ 400) ∧ 0 ≤ c ∧ c ≤ 8 then (x + (w - min a w) * (c % 3) / 2, y + (h - min b h) * (c / 3) / 2, min a w, min b h) else (0, 0, 0, 0)) := by
  unfold impl_AnchorRect.f impl_Rect_anchored.f impl_part.f
  simp only [impl_ValidRect_eq, within_eq, Option.bind_some, decide_eq_true_eq, mn_eq]
  by_cases h0 : VR x y w h
  · rw [if_pos h0]
    by_cases h1 : 0 ≤ a ∧ a ≤ 400
    · rw [if_pos h1]
      by_cases h2 : 0 ≤ b ∧ b ≤ 400
      · rw [if_pos h2]
        by_cases h3 : 0 ≤ c ∧ c ≤ 8
        · have m1 := part_range (d := w - min a w) (m := c % 3) (by omega) (by omega) (by omega) (by omega)
          have m2 := part_range (d := h - min b h) (m := c / 3) (by omega) (by omega) (by omega) (by omega)
          rw [if_pos h3, if_pos ⟨h0, h1, h2, h3⟩, tm2 h3.1, td2 h3.1, w64 (n := c / 3) (by omega) (by omega), w64 (n := w - min a w) (by omega) (by omega), w64 (n := h - min b h) (by omega) (by omega), w64 (n := (w - min a w) * (c % 3)) (by omega) (by omega), w64 (n := (h - min b h) * (c / 3)) (by omega) (by omega), td2 m1.1, td2 m2.1, w64 (n := (w - min a w) * (c % 3) / 2) (by omega) (by omega), w64 (n := (h - min b h) * (c / 3) / 2) (by omega) (by omega), w64 (by omega) (by omega), w64 (by omega) (by omega)]
        · rw [if_neg h3, if_neg (fun q => h3 q.2.2.2)]
      · rw [if_neg h2, if_neg (fun q => h2 q.2.2.1)]
    · rw [if_neg h1, if_neg (fun q => h1 q.2.1)]
  · rw [if_neg h0, if_neg (fun q => h0 q.1)]

theorem spec_AnchorRect_eq (x y w h a b c : Int) : spec_AnchorRect.f x y w h a b c = some (if VR x y w h ∧ (0 ≤ a ∧ a ≤ 400) ∧ (0 ≤ b ∧ b ≤ 400) ∧ 0 ≤ c ∧ c ≤ 8 then (x + (w - min a w) * (c % 3) / 2, y + (h - min b h) * (c / 3) / 2, min a w, min b h) else (0, 0, 0, 0)) := by
  unfold spec_AnchorRect.f spec_anchored.f spec_validAnchor.f
  simp only [spec_validRect_eq, inrange_eq, Option.bind_some, decide_eq_true_eq, mn_eq]
  by_cases h0 : VR x y w h
  · rw [if_pos h0]
    by_cases h1 : 0 ≤ a ∧ a ≤ 400
    · rw [if_pos h1]
      by_cases h2 : 0 ≤ b ∧ b ≤ 400
      · rw [if_pos h2]
        by_cases h3 : 0 ≤ c ∧ c ≤ 8
        · have m1 := part_range (d := w - min a w) (m := c % 3) (by omega) (by omega) (by omega) (by omega)
          have m2 := part_range (d := h - min b h) (m := c / 3) (by omega) (by omega) (by omega) (by omega)
          rw [if_pos h3, if_pos ⟨h0, h1, h2, h3⟩, tm2 h3.1, td2 h3.1, w64 (n := c / 3) (by omega) (by omega), w64 (n := w - min a w) (by omega) (by omega), w64 (n := h - min b h) (by omega) (by omega), w64 (n := (w - min a w) * (c % 3)) (by omega) (by omega), w64 (n := (h - min b h) * (c / 3)) (by omega) (by omega), td2 m1.1, td2 m2.1, w64 (n := (w - min a w) * (c % 3) / 2) (by omega) (by omega), w64 (n := (h - min b h) * (c / 3) / 2) (by omega) (by omega), w64 (by omega) (by omega), w64 (by omega) (by omega)]
        · rw [if_neg h3, if_neg (fun q => h3 q.2.2.2)]
      · rw [if_neg h2, if_neg (fun q => h2 q.2.2.1)]
    · rw [if_neg h1, if_neg (fun q => h1 q.2.1)]
  · rw [if_neg h0, if_neg (fun q => h0 q.1)]

theorem FnExactAnchorRect (a0_0 a0_1 a0_2 a0_3 : Int) (a1 a2 a3 : Int) (w0_0 : (Lit.int .i64 a0_0).wf = true) (w0_1 : (Lit.int .i64 a0_1).wf = true) (w0_2 : (Lit.int .i64 a0_2).wf = true) (w0_3 : (Lit.int .i64 a0_3).wf = true) (w1 : (Lit.int .i64 a1).wf = true) (w2 : (Lit.int .i64 a2).wf = true) (w3 : (Lit.int .i64 a3).wf = true) : laws_FnExactAnchorRect.f a0_0 a0_1 a0_2 a0_3 a1 a2 a3 = some true := by
  unfold laws_FnExactAnchorRect.f laws_toRect.f laws_eqRect.f
  simp only [Option.bind_some, spec_AnchorRect_eq, impl_AnchorRect_eq, if_true]

end Go.Proofs.Ytkecldjkakkgoaa.Pure
