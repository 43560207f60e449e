/- The plain side of FnExactValidPlace: the printed function answers true at every input; no condition is added. -/
import Derived.Test.YtmjegiffddffdaaPFnExactValidPlacex0
import Derived.Test.YtmjegiffddffdaaPFnExactValidPlacex1
import Derived.Test.YtmjegiffddffdaaBase
namespace Go.Proofs.Ytmjegiffddffdaa.Pure
open Go.RowKit Go.Proofs.Ytmjegiffddffdaa.PFnExactValidPlace Go.Proofs.YtmjegiffddffdaaW.PrintWords Go.Proofs.YtmjegiffddffdaaW.PrintLast Go.Proofs.YtmjegiffddffdaaW.PrintMore Go.Proofs.Ytmjegiffddffdaa.Base
set_option linter.unusedVariables false
set_option linter.unusedSimpArgs false

theorem within_eq (a b c : Int) : impl_within.f a b c = some (decide (b ≤ a ∧ a ≤ c)) := by
  unfold impl_within.f
  by_cases h : b ≤ a
  · rw [if_pos h]; simp [h]
  · rw [if_neg h]; simp [h]

theorem inrange_eq (a b c : Int) : spec_inRange.f a b c = some (decide (b ≤ a ∧ a ≤ c)) := by
  unfold spec_inRange.f
  by_cases h : b ≤ a
  · rw [if_pos h]; simp [h]
  · rw [if_neg h]; simp [h]

theorem impl_ValidPlace_l0 (k : Nat) (L : List Int) (n i : Int) (x y rx ry w h rw_ rh a : Int) : impl_ValidPlace.l0 (k + 1) L n i x y rx ry w h rw_ rh a = if i < n then (if 0 ≤ i then (if i < (L.length : Int) then (if -300 ≤ rd L i ∧ rd L i ≤ 300 then impl_ValidPlace.l0 k L n (wrap64 (i + 1)) x y rx ry w h rw_ rh a else some false) else none) else none) else impl_ValidPlace.l1 k [rx, ry, rw_, rh] 4 0 x y rx ry w h rw_ rh a := by
  rw [impl_ValidPlace.l0]
  simp only [within_eq, Option.bind_some, decide_eq_true_eq]
  rfl
theorem impl_ValidPlace_l1 (k : Nat) (L : List Int) (n i : Int) (x y rx ry w h rw_ rh a : Int) : impl_ValidPlace.l1 (k + 1) L n i x y rx ry w h rw_ rh a = if i < n then (if 0 ≤ i then (if i < (L.length : Int) then (if 0 ≤ rd L i ∧ rd L i ≤ 1000 then impl_ValidPlace.l1 k L n (wrap64 (i + 1)) x y rx ry w h rw_ rh a else some false) else none) else none) else some (decide (0 ≤ a ∧ a ≤ 8)) := by
  rw [impl_ValidPlace.l1]
  simp only [within_eq, Option.bind_some, decide_eq_true_eq]
theorem impl_ValidPlace_eq (k : Nat) (x y rx ry w h rw_ rh a : Int) : impl_ValidPlace.f (k + 10) x y rx ry w h rw_ rh a = some (decide (VP x y rx ry w h rw_ rh a)) := by
  unfold impl_ValidPlace.f
  rw [Option.bind_some]
  have d1 : wrap64 1 = 1 := by unfold wrap64; omega
  have d2 : wrap64 2 = 2 := by unfold wrap64; omega
  have d3 : wrap64 3 = 3 := by unfold wrap64; omega
  have d4 : wrap64 4 = 4 := by unfold wrap64; omega
  have a0 : rd [x, y, w, h] 0 = x := rfl
  have a1 : rd [x, y, w, h] 1 = y := rfl
  have a2 : rd [x, y, w, h] 2 = w := rfl
  have a3 : rd [x, y, w, h] 3 = h := rfl
  have b0 : rd [rx, ry, rw_, rh] 0 = rx := rfl
  have b1 : rd [rx, ry, rw_, rh] 1 = ry := rfl
  have b2 : rd [rx, ry, rw_, rh] 2 = rw_ := rfl
  have b3 : rd [rx, ry, rw_, rh] 3 = rh := rfl
  have s0 : (([x, y, w, h] : List Int).length : Int) = 4 := rfl
  have s1 : (([rx, ry, rw_, rh] : List Int).length : Int) = 4 := rfl
  simp only [impl_ValidPlace_l0, impl_ValidPlace_l1, s0, s1, d1, d2, d3, d4, a0, a1, a2, a3, b0, b1, b2, b3, Int.reduceLT, Int.reduceLE, Int.reduceAdd, ↓reduceIte]
  repeat' split
  all_goals
    refine congrArg some ?_
    first
    | (rw [decide_eq_decide]; omega)
    | (symm; rw [decide_eq_false_iff_not]; omega)

theorem spec_validPlace_eq (x y rx ry w h rw_ rh a : Int) : spec_validPlace.f x y rx ry w h rw_ rh a = some (decide (VP x y rx ry w h rw_ rh a)) := by
  unfold spec_validPlace.f spec_validAnchor.f
  simp only [inrange_eq, Option.bind_some, decide_eq_true_eq]
  repeat' split
  all_goals
    refine congrArg some ?_
    first
    | (rw [decide_eq_decide]; omega)
    | (symm; rw [decide_eq_false_iff_not]; omega)

theorem spec_ValidPlace_eq (x y rx ry w h rw_ rh a : Int) : spec_ValidPlace.f x y rx ry w h rw_ rh a = some (decide (VP x y rx ry w h rw_ rh a)) := by
  unfold spec_ValidPlace.f
  rw [spec_validPlace_eq, Option.bind_some]

theorem FnExactValidPlace (a0_0 a0_1 a0_2 a0_3 a0_4 a0_5 a0_6 a0_7 a0_8 : Int) (w0_0 : (Lit.int .i64 a0_0).wf = true) (w0_1 : (Lit.int .i64 a0_1).wf = true) (w0_2 : (Lit.int .i64 a0_2).wf = true) (w0_3 : (Lit.int .i64 a0_3).wf = true) (w0_4 : (Lit.int .i64 a0_4).wf = true) (w0_5 : (Lit.int .i64 a0_5).wf = true) (w0_6 : (Lit.int .i64 a0_6).wf = true) (w0_7 : (Lit.int .i64 a0_7).wf = true) (w0_8 : (Lit.int .i64 a0_8).wf = true) : ∃ k, laws_FnExactValidPlace.f k a0_0 a0_1 a0_2 a0_3 a0_4 a0_5 a0_6 a0_7 a0_8 = some true := by
  refine ⟨10, ?_⟩
  unfold laws_FnExactValidPlace.f laws_toPlace.f
  simp only [Option.bind_some, spec_ValidPlace_eq]
  rw [impl_ValidPlace_eq 0]
  simp

end Go.Proofs.Ytmjegiffddffdaa.Pure
