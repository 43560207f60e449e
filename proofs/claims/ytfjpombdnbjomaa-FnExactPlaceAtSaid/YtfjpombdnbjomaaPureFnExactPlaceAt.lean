/- The plain side of FnExactPlaceAt: the printed function answers true at every input; no condition is added. -/
import Derived.Test.YtfjpombdnbjomaaQFnExactPlaceAtx0
import Derived.Test.YtfjpombdnbjomaaQFnExactPlaceAtx1
import Derived.Test.YtfjpombdnbjomaaQFnExactPlaceAtx2
import Derived.Test.YtfjpombdnbjomaaQFnExactPlaceAtx3
import Derived.Test.YtfjpombdnbjomaaBase
namespace Go.Proofs.Ytfjpombdnbjomaa.Pure
open Go.RowKit Go.Proofs.Ytfjpombdnbjomaa.PFnExactPlaceAt Go.Proofs.YtfjpombdnbjomaaW.PrintWords Go.Proofs.YtfjpombdnbjomaaW.PrintLast Go.Proofs.YtfjpombdnbjomaaW.PrintMore Go.Proofs.Ytfjpombdnbjomaa.Base
set_option linter.unusedVariables false
set_option linter.unusedSimpArgs false

theorem within_eq (a b c : Int) : impl_within.f a b c = some (decide (b ≤ a ∧ a ≤ c)) := by
  unfold impl_within.f
  by_cases h : b ≤ a
  · rw [if_pos h]; simp [h]
  · rw [if_neg h]; simp [h]

theorem inrange_eq (a b c : Int) : spec_inRange.f a b c = some (decide (b ≤ a ∧ a ≤ c)) := by
  unfold spec_inRange.f
  by_cases h : b ≤ a
  · rw [if_pos h]; simp [h]
  · rw [if_neg h]; simp [h]

theorem impl_ValidPlace_l0 (k : Nat) (L : List Int) (n i : Int) (x y rx ry w h rw_ rh a : Int) : impl_ValidPlace.l0 (k + 1) L n i x y rx ry w h rw_ rh a = if i < n then (if 0 ≤ i then (if i < (L.length : Int) then (if -300 ≤ rd L i ∧ rd L i ≤ 300 then impl_ValidPlace.l0 k L n (wrap64 (i + 1)) x y rx ry w h rw_ rh a else some false) else none) else none) else impl_ValidPlace.l1 k [rx, ry, rw_, rh] 4 0 x y rx ry w h rw_ rh a := by
  rw [impl_ValidPlace.l0]
  simp only [within_eq, Option.bind_some, decide_eq_true_eq]
  rfl
theorem impl_ValidPlace_l1 (k : Nat) (L : List Int) (n i : Int) (x y rx ry w h rw_ rh a : Int) : impl_ValidPlace.l1 (k + 1) L n i x y rx ry w h rw_ rh a = if i < n then (if 0 ≤ i then (if i < (L.length : Int) then (if 0 ≤ rd L i ∧ rd L i ≤ 1000 then impl_ValidPlace.l1 k L n (wrap64 (i + 1)) x y rx ry w h rw_ rh a else some false) else none) else none) else some (decide (0 ≤ a ∧ a ≤ 8)) := by
  rw [impl_ValidPlace.l1]
  simp only [within_eq, Option.bind_some, decide_eq_true_eq]
theorem impl_ValidPlace_eq (k : Nat) (x y rx ry w h rw_ rh a : Int) : impl_ValidPlace.f (k + 10) x y rx ry w h rw_ rh a = some (decide (VP x y rx ry w h rw_ rh a)) := by
  unfold impl_ValidPlace.f
  rw [Option.bind_some]
  have d1 : wrap64 1 = 1 := by unfold wrap64; omega
  have d2 : wrap64 2 = 2 := by unfold wrap64; omega
  have d3 : wrap64 3 = 3 := by unfold wrap64; omega
  have d4 : wrap64 4 = 4 := by unfold wrap64; omega
  have a0 : rd [x, y, w, h] 0 = x := rfl
  have a1 : rd [x, y, w, h] 1 = y := rfl
  have a2 : rd [x, y, w, h] 2 = w := rfl
  have a3 : rd [x, y, w, h] 3 = h := rfl
  have b0 : rd [rx, ry, rw_, rh] 0 = rx := rfl
  have b1 : rd [rx, ry, rw_, rh] 1 = ry := rfl
  have b2 : rd [rx, ry, rw_, rh] 2 = rw_ := rfl
  have b3 : rd [rx, ry, rw_, rh] 3 = rh := rfl
  have s0 : (([x, y, w, h] : List Int).length : Int) = 4 := rfl
  have s1 : (([rx, ry, rw_, rh] : List Int).length : Int) = 4 := rfl
  simp only [impl_ValidPlace_l0, impl_ValidPlace_l1, s0, s1, d1, d2, d3, d4, a0, a1, a2, a3, b0, b1, b2, b3, Int.reduceLT, Int.reduceLE, Int.reduceAdd, ↓reduceIte]
  repeat' split
  all_goals
    refine congrArg some ?_
    first
    | (rw [decide_eq_decide]; omega)
    | (symm; rw [decide_eq_false_iff_not]; omega)

theorem spec_validPlace_eq (x y rx ry w h rw_ rh a : Int) : spec_validPlace.f x y rx ry w h rw_ rh a = some (decide (VP x y rx ry w h rw_ rh a)) := by
  unfold spec_validPlace.f spec_validAnchor.f
  simp only [inrange_eq, Option.bind_some, decide_eq_true_eq]
  repeat' split
  all_goals
    refine congrArg some ?_
    first
    | (rw [decide_eq_decide]; omega)
    | (symm; rw [decide_eq_false_iff_not]; omega)

theorem sizeOk_eq (W H : Int) : impl_sizeOk.f W H = some (decide (RM W H)) := by
  unfold impl_sizeOk.f
  simp only [within_eq, Option.bind_some, decide_eq_true_eq]
  split
  all_goals
    refine congrArg some ?_
    first
    | (rw [decide_eq_decide]; omega)
    | (symm; rw [decide_eq_false_iff_not]; omega)

theorem goodRoom_eq (W H : Int) : spec_goodRoom.f W H = some (decide (RM W H)) := by
  unfold spec_goodRoom.f
  simp only [inrange_eq, Option.bind_some, decide_eq_true_eq]
  split
  all_goals
    refine congrArg some ?_
    first
    | (rw [decide_eq_decide]; omega)
    | (symm; rw [decide_eq_false_iff_not]; omega)

theorem rect_eq {x y rx ry w h rw_ rh a W H : Int} (hv : LP x y rx ry w h rw_ rh a) (hr : RM W H) : impl_Place_rect.f x y rx ry w h rw_ rh a W H = some (PX x rx w rw_ (a % 3) W, PX y ry h rh (a / 3) H, ps w rw_ W, ps h rh H) := by
  obtain ⟨hx, hy, hrx, hry, hw, hh, hrw, hrh, ha⟩ := hv
  obtain ⟨hW, hH⟩ := hr
  unfold impl_Place_rect.f impl_part.f
  simp only [Option.bind_some, mx_eq]
  have d1 := dir_eq hx hrx hw hrw (m := a % 3) (by omega) hW
  have d2 := dir_eq hy hry hh hrh (m := a / 3) (by omega) hH
  rw [tm2 ha.1, td2 ha.1, w64 (n := a / 3) (by omega) (by omega), d1.1, d2.1, d1.2.1, d2.2.1]
  show some (wrap64 (pl x rx W - wrap64 (Int.tdiv (wrap64 (ps w rw_ W * (a % 3))) 2)), wrap64 (pl y ry H - wrap64 (Int.tdiv (wrap64 (ps h rh H * (a / 3))) 2)), ps w rw_ W, ps h rh H) = _
  rw [d1.2.2.1, d2.2.2.1, d1.2.2.2.1, d2.2.2.2.1]

theorem placed_eq {x y rx ry w h rw_ rh a W H : Int} (hv : LP x y rx ry w h rw_ rh a) (hr : RM W H) : spec_placed.f x y rx ry w h rw_ rh a 0 0 W H = some (PX x rx w rw_ (a % 3) W, PX y ry h rh (a / 3) H, ps w rw_ W, ps h rh H) := by
  obtain ⟨hx, hy, hrx, hry, hw, hh, hrw, hrh, ha⟩ := hv
  obtain ⟨hW, hH⟩ := hr
  unfold spec_placed.f spec_part.f
  simp only [Option.bind_some, mx_comm 0, mx_eq]
  have d1 := dir_eq hx hrx hw hrw (m := a % 3) (by omega) hW
  have d2 := dir_eq hy hry hh hrh (m := a / 3) (by omega) hH
  rw [Int.mul_comm W rw_, Int.mul_comm H rh, Int.mul_comm W rx, Int.mul_comm H ry, tm2 ha.1, td2 ha.1, w64 (n := a / 3) (by omega) (by omega), d1.1, d2.1, d1.2.1, d2.2.1]
  show some (wrap64 (0 + wrap64 (pl x rx W - wrap64 (Int.tdiv (wrap64 (ps w rw_ W * (a % 3))) 2))), wrap64 (0 + wrap64 (pl y ry H - wrap64 (Int.tdiv (wrap64 (ps h rh H * (a / 3))) 2))), ps w rw_ W, ps h rh H) = _
  rw [d1.2.2.1, d2.2.2.1, d1.2.2.2.1, d2.2.2.2.1, w64 (n := 0 + PX x rx w rw_ (a % 3) W) (by unfold PX; omega) (by unfold PX; omega), w64 (n := 0 + PX y ry h rh (a / 3) H) (by unfold PX; omega) (by unfold PX; omega), Int.zero_add, Int.zero_add]

theorem lp_of {x y rx ry w h rw_ rh a : Int} (h' : VP x y rx ry w h rw_ rh a) : LP x y rx ry w h rw_ rh a := by omega

theorem px_range {x r w q m s : Int} (hx : -300 ≤ x ∧ x ≤ 300) (hr : 0 ≤ r ∧ r ≤ 1000) (hw : -300 ≤ w ∧ w ≤ 300) (hq : 0 ≤ q ∧ q ≤ 1000) (hm : 0 ≤ m ∧ m ≤ 2) (hs : 0 ≤ s ∧ s ≤ 400) : -1000000 ≤ PX x r w q m s ∧ PX x r w q m s ≤ 1000000 ∧ 0 ≤ ps w q s ∧ ps w q s ≤ 700 := by
  have t1 := thou hr.1 hr.2 hs.1 hs.2
  have t2 := thou hq.1 hq.2 hs.1 hs.2
  have a0 := ps_nonneg w q s
  have a1 : ps w q s ≤ 700 := by unfold ps; omega
  have p := part_range' a0 a1 hm.1 hm.2
  unfold PX pl
  generalize ps w q s * m = z at *
  generalize ps w q s = A at *
  omega

theorem pxl {x r w q m s : Int} (hx : -100000 ≤ x ∧ x ≤ 100000) (hr : 0 ≤ r ∧ r ≤ 1000) (hw : -100000 ≤ w ∧ w ≤ 100000) (hq : 0 ≤ q ∧ q ≤ 1000) (hm : 0 ≤ m ∧ m ≤ 2) (hs : 0 ≤ s ∧ s ≤ 400) : -2000000 ≤ PX x r w q m s ∧ PX x r w q m s ≤ 2000000 := by
  have d := dir_eq hx hr hw hq hm hs
  unfold PX
  omega
theorem moved_eq (k : Nat) {x y rx ry w h rw_ rh a W H X Y : Int} (hl : LP x y rx ry w h rw_ rh a) (hr : RM W H) (hX : -2000000 ≤ X ∧ X ≤ 2000000) (hY : -2000000 ≤ Y ∧ Y ≤ 2000000) : impl_Place_moved.f (k + 10) x y rx ry w h rw_ rh a W H X Y = some (if VP (x + (X - PX x rx w rw_ (a % 3) W)) (y + (Y - PX y ry h rh (a / 3) H)) rx ry w h rw_ rh a then (x + (X - PX x rx w rw_ (a % 3) W), y + (Y - PX y ry h rh (a / 3) H), rx, ry, w, h, rw_, rh, a, true) else (0, 0, 0, 0, 0, 0, 0, 0, 0, false)) := by
  unfold impl_Place_moved.f
  have p1 := pxl (x := x) (r := rx) (w := w) (q := rw_) (m := a % 3) (s := W) (by omega) (by omega) (by omega) (by omega) (by omega) (by omega)
  have p2 := pxl (x := y) (r := ry) (w := h) (q := rh) (m := a / 3) (s := H) (by omega) (by omega) (by omega) (by omega) (by omega) (by omega)
  rw [rect_eq hl hr, Option.bind_some]
  dsimp only
  generalize PX x rx w rw_ (a % 3) W = P1 at *
  generalize PX y ry h rh (a / 3) H = P2 at *
  rw [w64 (n := X - P1) (by omega) (by omega), w64 (n := Y - P2) (by omega) (by omega), w64 (n := x + (X - P1)) (by omega) (by omega), w64 (n := y + (Y - P2)) (by omega) (by omega), impl_ValidPlace_eq, Option.bind_some]
  by_cases hv : VP (x + (X - P1)) (y + (Y - P2)) rx ry w h rw_ rh a
  · rw [if_pos hv, if_pos (decide_eq_true hv)]
  · rw [if_neg hv, if_neg (by rw [decide_eq_false hv]; decide)]

theorem impl_PlaceAt_eq (k : Nat) (x y rx ry w h rw_ rh a W H X Y : Int) : impl_PlaceAt.f (k + 10) x y rx ry w h rw_ rh a W H X Y = some (if VP x y rx ry w h rw_ rh a ∧ RM W H ∧ (-300 ≤ X ∧ X ≤ 300) ∧ (-300 ≤ Y ∧ Y ≤ 300) ∧ VP (x + (X - PX x rx w rw_ (a % 3) W)) (y + (Y - PX y ry h rh (a / 3) H)) rx ry w h rw_ rh a then (x + (X - PX x rx w rw_ (a % 3) W), y + (Y - PX y ry h rh (a / 3) H), rx, ry, w, h, rw_, rh, a, true) else (0, 0, 0, 0, 0, 0, 0, 0, 0, false)) := by
  unfold impl_PlaceAt.f
  rw [impl_ValidPlace_eq, sizeOk_eq, within_eq, within_eq, Option.bind_some, Option.bind_some, Option.bind_some, Option.bind_some]
  by_cases h0 : VP x y rx ry w h rw_ rh a
  · rw [if_pos (decide_eq_true h0)]
    by_cases h1 : RM W H
    · rw [if_pos (decide_eq_true h1)]
      by_cases h2 : -300 ≤ X ∧ X ≤ 300
      · rw [if_pos (decide_eq_true h2)]
        by_cases h3 : -300 ≤ Y ∧ Y ≤ 300
        · rw [if_pos (decide_eq_true h3), moved_eq k (lp_of h0) h1 (by omega) (by omega), Option.bind_some]
          refine congrArg some ?_
          by_cases h4 : VP (x + (X - PX x rx w rw_ (a % 3) W)) (y + (Y - PX y ry h rh (a / 3) H)) rx ry w h rw_ rh a
          · rw [if_pos h4, if_pos ⟨h0, h1, h2, h3, h4⟩]
          · rw [if_neg h4, if_neg (fun q => h4 q.2.2.2.2)]
        · rw [if_neg (by rw [decide_eq_false h3]; decide), if_neg (fun q => h3 q.2.2.2.1)]
      · rw [if_neg (by rw [decide_eq_false h2]; decide), if_neg (fun q => h2 q.2.2.1)]
    · rw [if_neg (by rw [decide_eq_false h1]; decide), if_neg (fun q => h1 q.2.1)]
  · rw [if_neg (by rw [decide_eq_false h0]; decide), if_neg (fun q => h0 q.1)]

theorem spec_PlaceAt_eq (k : Nat) (x y rx ry w h rw_ rh a W H X Y : Int) : spec_PlaceAt.f (k + 1) x y rx ry w h rw_ rh a W H X Y = some (if VP x y rx ry w h rw_ rh a ∧ RM W H ∧ (-300 ≤ X ∧ X ≤ 300) ∧ (-300 ≤ Y ∧ Y ≤ 300) ∧ VP (x + (X - PX x rx w rw_ (a % 3) W)) (y + (Y - PX y ry h rh (a / 3) H)) rx ry w h rw_ rh a then (x + (X - PX x rx w rw_ (a % 3) W), y + (Y - PX y ry h rh (a / 3) H), rx, ry, w, h, rw_, rh, a, true) else (0, 0, 0, 0, 0, 0, 0, 0, 0, false)) := by
  unfold spec_PlaceAt.f
  simp only [spec_PlaceAt.j0, spec_validPlace_eq, goodRoom_eq, inrange_eq, Option.bind_some, if_true, decide_eq_true_eq, Bool.not_eq_true', decide_eq_false_iff_not]
  by_cases h0 : VP x y rx ry w h rw_ rh a
  · rw [if_pos h0]
    by_cases h1 : RM W H
    · rw [if_pos h1]
      by_cases h2 : -300 ≤ X ∧ X ≤ 300
      · rw [if_pos h2]
        by_cases h3 : -300 ≤ Y ∧ Y ≤ 300
        · rw [if_neg (fun q => q h3), placed_eq (lp_of h0) h1, Option.bind_some]
          dsimp only
          have r1 := px_range (x := x) (r := rx) (w := w) (q := rw_) (m := a % 3) (s := W) (by omega) (by omega) (by omega) (by omega) (by omega) (by omega)
          have r2 := px_range (x := y) (r := ry) (w := h) (q := rh) (m := a / 3) (s := H) (by omega) (by omega) (by omega) (by omega) (by omega) (by omega)
          generalize PX x rx w rw_ (a % 3) W = P1 at *
          generalize PX y ry h rh (a / 3) H = P2 at *
          rw [w64 (n := x + X) (by omega) (by omega), w64 (n := y + Y) (by omega) (by omega), w64 (n := x + X - P1) (by omega) (by omega), w64 (n := y + Y - P2) (by omega) (by omega), show x + X - P1 = x + (X - P1) from by omega, show y + Y - P2 = y + (Y - P2) from by omega]
          by_cases h4 : VP (x + (X - P1)) (y + (Y - P2)) rx ry w h rw_ rh a
          · rw [if_pos h4, if_pos ⟨h0, h1, h2, h3, h4⟩]
          · rw [if_neg h4, if_neg (fun q => h4 q.2.2.2.2)]
        · rw [if_pos h3, if_neg (fun q => h3 q.2.2.2.1)]
      · rw [if_neg h2, if_neg (fun q => h2 q.2.2.1)]
    · rw [if_neg h1, if_neg (fun q => h1 q.2.1)]
  · rw [if_neg h0, if_neg (fun q => h0 q.1)]

theorem FnExactPlaceAt (a0_0 a0_1 a0_2 a0_3 a0_4 a0_5 a0_6 a0_7 a0_8 : Int) (a1 a2 a3 a4 : Int) (w0_0 : (Lit.int .i64 a0_0).wf = true) (w0_1 : (Lit.int .i64 a0_1).wf = true) (w0_2 : (Lit.int .i64 a0_2).wf = true) (w0_3 : (Lit.int .i64 a0_3).wf = true) (w0_4 : (Lit.int .i64 a0_4).wf = true) (w0_5 : (Lit.int .i64 a0_5).wf = true) (w0_6 : (Lit.int .i64 a0_6).wf = true) (w0_7 : (Lit.int .i64 a0_7).wf = true) (w0_8 : (Lit.int .i64 a0_8).wf = true) (w1 : (Lit.int .i64 a1).wf = true) (w2 : (Lit.int .i64 a2).wf = true) (w3 : (Lit.int .i64 a3).wf = true) (w4 : (Lit.int .i64 a4).wf = true) : ∃ k, laws_FnExactPlaceAt.f k a0_0 a0_1 a0_2 a0_3 a0_4 a0_5 a0_6 a0_7 a0_8 a1 a2 a3 a4 = some true := by
  refine ⟨10, ?_⟩
  unfold laws_FnExactPlaceAt.f laws_toPlace.f laws_eqPlace.f
  simp only [Option.bind_some, spec_PlaceAt_eq 9, impl_PlaceAt_eq 0, if_true, bne_self_false]
  rfl

end Go.Proofs.Ytfjpombdnbjomaa.Pure
