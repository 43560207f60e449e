/- The plain side of FnExactLeastInside: the printed function answers true at every input; no condition is added. -/
import Derived.Test.YtfjpombdnbjomaaQFnExactLeastInsidex0
import Derived.Test.YtfjpombdnbjomaaQFnExactLeastInsidex1
import Derived.Test.YtfjpombdnbjomaaQFnExactLeastInsidex2
import Derived.Test.YtfjpombdnbjomaaQFnExactLeastInsidex3
import Derived.Test.YtfjpombdnbjomaaQFnExactLeastInsidex4
import Derived.Test.YtfjpombdnbjomaaBase
namespace Go.Proofs.Ytfjpombdnbjomaa.Pure
open Go.RowKit Go.Proofs.Ytfjpombdnbjomaa.PFnExactLeastInside Go.Proofs.YtfjpombdnbjomaaW.PrintWords Go.Proofs.YtfjpombdnbjomaaW.PrintLast Go.Proofs.YtfjpombdnbjomaaW.PrintMore Go.Proofs.Ytfjpombdnbjomaa.Base
set_option linter.unusedVariables false
set_option linter.unusedSimpArgs false

theorem within_eq (a b c : Int) : impl_within.f a b c = some (decide (b ≤ a ∧ a ≤ c)) := by
  unfold impl_within.f
  by_cases h : b ≤ a
  · rw [if_pos h]; simp [h]
  · rw [if_neg h]; simp [h]

theorem inrange_eq (a b c : Int) : spec_inRange.f a b c = some (decide (b ≤ a ∧ a ≤ c)) := by
  unfold spec_inRange.f
  by_cases h : b ≤ a
  · rw [if_pos h]; simp [h]
  · rw [if_neg h]; simp [h]

theorem impl_ValidRect_eq (x y w h : Int) : impl_ValidRect.f x y w h = some (decide (VR x y w h)) := by
  unfold impl_ValidRect.f
  simp only [within_eq, Option.bind_some, decide_eq_true_eq]
  split
  · split
    · rw [w64 (n := 1000 - w) (by omega) (by omega), w64 (n := 1000 - h) (by omega) (by omega)]
      split
      · refine congrArg some ?_
        rw [decide_eq_decide]
        omega
      · refine congrArg some ?_
        symm
        rw [decide_eq_false_iff_not]
        omega
    · refine congrArg some ?_
      symm
      rw [decide_eq_false_iff_not]
      omega
  · refine congrArg some ?_
    symm
    rw [decide_eq_false_iff_not]
    omega

theorem impl_ValidPlace_l0 (k : Nat) (L : List Int) (n i : Int) (x y rx ry w h rw_ rh a : Int) : impl_ValidPlace.l0 (k + 1) L n i x y rx ry w h rw_ rh a = if i < n then (if 0 ≤ i then (if i < (L.length : Int) then (if -300 ≤ rd L i ∧ rd L i ≤ 300 then impl_ValidPlace.l0 k L n (wrap64 (i + 1)) x y rx ry w h rw_ rh a else some false) else none) else none) else impl_ValidPlace.l1 k [rx, ry, rw_, rh] 4 0 x y rx ry w h rw_ rh a := by
  rw [impl_ValidPlace.l0]
  simp only [within_eq, Option.bind_some, decide_eq_true_eq]
  rfl
theorem impl_ValidPlace_l1 (k : Nat) (L : List Int) (n i : Int) (x y rx ry w h rw_ rh a : Int) : impl_ValidPlace.l1 (k + 1) L n i x y rx ry w h rw_ rh a = if i < n then (if 0 ≤ i then (if i < (L.length : Int) then (if 0 ≤ rd L i ∧ rd L i ≤ 1000 then impl_ValidPlace.l1 k L n (wrap64 (i + 1)) x y rx ry w h rw_ rh a else some false) else none) else none) else some (decide (0 ≤ a ∧ a ≤ 8)) := by
  rw [impl_ValidPlace.l1]
  simp only [within_eq, Option.bind_some, decide_eq_true_eq]
theorem impl_ValidPlace_eq (k : Nat) (x y rx ry w h rw_ rh a : Int) : impl_ValidPlace.f (k + 10) x y rx ry w h rw_ rh a = some (decide (VP x y rx ry w h rw_ rh a)) := by
  unfold impl_ValidPlace.f
  rw [Option.bind_some]
  have d1 : wrap64 1 = 1 := by unfold wrap64; omega
  have d2 : wrap64 2 = 2 := by unfold wrap64; omega
  have d3 : wrap64 3 = 3 := by unfold wrap64; omega
  have d4 : wrap64 4 = 4 := by unfold wrap64; omega
  have a0 : rd [x, y, w, h] 0 = x := rfl
  have a1 : rd [x, y, w, h] 1 = y := rfl
  have a2 : rd [x, y, w, h] 2 = w := rfl
  have a3 : rd [x, y, w, h] 3 = h := rfl
  have b0 : rd [rx, ry, rw_, rh] 0 = rx := rfl
  have b1 : rd [rx, ry, rw_, rh] 1 = ry := rfl
  have b2 : rd [rx, ry, rw_, rh] 2 = rw_ := rfl
  have b3 : rd [rx, ry, rw_, rh] 3 = rh := rfl
  have s0 : (([x, y, w, h] : List Int).length : Int) = 4 := rfl
  have s1 : (([rx, ry, rw_, rh] : List Int).length : Int) = 4 := rfl
  simp only [impl_ValidPlace_l0, impl_ValidPlace_l1, s0, s1, d1, d2, d3, d4, a0, a1, a2, a3, b0, b1, b2, b3, Int.reduceLT, Int.reduceLE, Int.reduceAdd, ↓reduceIte]
  repeat' split
  all_goals
    refine congrArg some ?_
    first
    | (rw [decide_eq_decide]; omega)
    | (symm; rw [decide_eq_false_iff_not]; omega)

theorem spec_validPlace_eq (x y rx ry w h rw_ rh a : Int) : spec_validPlace.f x y rx ry w h rw_ rh a = some (decide (VP x y rx ry w h rw_ rh a)) := by
  unfold spec_validPlace.f spec_validAnchor.f
  simp only [inrange_eq, Option.bind_some, decide_eq_true_eq]
  repeat' split
  all_goals
    refine congrArg some ?_
    first
    | (rw [decide_eq_decide]; omega)
    | (symm; rw [decide_eq_false_iff_not]; omega)

theorem sizeOk_eq (W H : Int) : impl_sizeOk.f W H = some (decide (RM W H)) := by
  unfold impl_sizeOk.f
  simp only [within_eq, Option.bind_some, decide_eq_true_eq]
  split
  all_goals
    refine congrArg some ?_
    first
    | (rw [decide_eq_decide]; omega)
    | (symm; rw [decide_eq_false_iff_not]; omega)

theorem rect_eq {x y rx ry w h rw_ rh a W H : Int} (hv : LP x y rx ry w h rw_ rh a) (hr : RM W H) : impl_Place_rect.f x y rx ry w h rw_ rh a W H = some (PX x rx w rw_ (a % 3) W, PX y ry h rh (a / 3) H, ps w rw_ W, ps h rh H) := by
  obtain ⟨hx, hy, hrx, hry, hw, hh, hrw, hrh, ha⟩ := hv
  obtain ⟨hW, hH⟩ := hr
  unfold impl_Place_rect.f impl_part.f
  simp only [Option.bind_some, mx_eq]
  have d1 := dir_eq hx hrx hw hrw (m := a % 3) (by omega) hW
  have d2 := dir_eq hy hry hh hrh (m := a / 3) (by omega) hH
  rw [tm2 ha.1, td2 ha.1, w64 (n := a / 3) (by omega) (by omega), d1.1, d2.1, d1.2.1, d2.2.1]
  show some (wrap64 (pl x rx W - wrap64 (Int.tdiv (wrap64 (ps w rw_ W * (a % 3))) 2)), wrap64 (pl y ry H - wrap64 (Int.tdiv (wrap64 (ps h rh H * (a / 3))) 2)), ps w rw_ W, ps h rh H) = _
  rw [d1.2.2.1, d2.2.2.1, d1.2.2.2.1, d2.2.2.2.1]

theorem placed_eq {x y rx ry w h rw_ rh a W H : Int} (hv : LP x y rx ry w h rw_ rh a) (hr : RM W H) : spec_placed.f x y rx ry w h rw_ rh a 0 0 W H = some (PX x rx w rw_ (a % 3) W, PX y ry h rh (a / 3) H, ps w rw_ W, ps h rh H) := by
  obtain ⟨hx, hy, hrx, hry, hw, hh, hrw, hrh, ha⟩ := hv
  obtain ⟨hW, hH⟩ := hr
  unfold spec_placed.f spec_part.f
  simp only [Option.bind_some, mx_comm 0, mx_eq]
  have d1 := dir_eq hx hrx hw hrw (m := a % 3) (by omega) hW
  have d2 := dir_eq hy hry hh hrh (m := a / 3) (by omega) hH
  rw [Int.mul_comm W rw_, Int.mul_comm H rh, Int.mul_comm W rx, Int.mul_comm H ry, tm2 ha.1, td2 ha.1, w64 (n := a / 3) (by omega) (by omega), d1.1, d2.1, d1.2.1, d2.2.1]
  show some (wrap64 (0 + wrap64 (pl x rx W - wrap64 (Int.tdiv (wrap64 (ps w rw_ W * (a % 3))) 2))), wrap64 (0 + wrap64 (pl y ry H - wrap64 (Int.tdiv (wrap64 (ps h rh H * (a / 3))) 2))), ps w rw_ W, ps h rh H) = _
  rw [d1.2.2.1, d2.2.2.1, d1.2.2.2.1, d2.2.2.2.1, w64 (n := 0 + PX x rx w rw_ (a % 3) W) (by unfold PX; omega) (by unfold PX; omega), w64 (n := 0 + PX y ry h rh (a / 3) H) (by unfold PX; omega) (by unfold PX; omega), Int.zero_add, Int.zero_add]

theorem lp_of {x y rx ry w h rw_ rh a : Int} (h' : VP x y rx ry w h rw_ rh a) : LP x y rx ry w h rw_ rh a := by omega

theorem px_range {x r w q m s : Int} (hx : -300 ≤ x ∧ x ≤ 300) (hr : 0 ≤ r ∧ r ≤ 1000) (hw : -300 ≤ w ∧ w ≤ 300) (hq : 0 ≤ q ∧ q ≤ 1000) (hm : 0 ≤ m ∧ m ≤ 2) (hs : 0 ≤ s ∧ s ≤ 400) : -1000000 ≤ PX x r w q m s ∧ PX x r w q m s ≤ 1000000 ∧ 0 ≤ ps w q s ∧ ps w q s ≤ 700 := by
  have t1 := thou hr.1 hr.2 hs.1 hs.2
  have t2 := thou hq.1 hq.2 hs.1 hs.2
  have a0 := ps_nonneg w q s
  have a1 : ps w q s ≤ 700 := by unfold ps; omega
  have p := part_range' a0 a1 hm.1 hm.2
  unfold PX pl
  generalize ps w q s * m = z at *
  generalize ps w q s = A at *
  omega

theorem impl_InsideRect_eq (x y w h x' y' w' h' : Int) : impl_InsideRect.f x y w h x' y' w' h' = some (decide (VR x y w h ∧ VR x' y' w' h' ∧ IN x y w h x' y' w' h')) := by
  unfold impl_InsideRect.f impl_Rect_inside.f
  simp only [impl_ValidRect_eq, Option.bind_some, decide_eq_true_eq]
  by_cases hv : VR x y w h
  · by_cases hv' : VR x' y' w' h'
    · rw [if_pos hv, if_pos hv', w64 (n := x + w) (by omega) (by omega), w64 (n := y + h) (by omega) (by omega), w64 (n := x' + w') (by omega) (by omega), w64 (n := y' + h') (by omega) (by omega)]
      repeat' split
      all_goals
        simp only [Option.bind_some]
        refine congrArg some ?_
        first
        | (rw [decide_eq_decide]; omega)
        | (symm; rw [decide_eq_false_iff_not]; omega)
    · rw [if_pos hv, if_neg hv']
      refine congrArg some ?_
      symm
      rw [decide_eq_false_iff_not]
      omega
  · rw [if_neg hv]
    refine congrArg some ?_
    symm
    rw [decide_eq_false_iff_not]
    omega

theorem impl_PlaceInside_eq (k : Nat) (x y rx ry w h rw_ rh a W H : Int) : impl_PlaceInside.f (k + 10) x y rx ry w h rw_ rh a W H = some (decide (VP x y rx ry w h rw_ rh a ∧ RM W H ∧ INS x y rx ry w h rw_ rh a W H)) := by
  unfold impl_PlaceInside.f
  rw [impl_ValidPlace_eq, sizeOk_eq, Option.bind_some, Option.bind_some]
  simp only [impl_PlaceInside.j0, if_true]
  by_cases h0 : VP x y rx ry w h rw_ rh a
  · rw [if_pos (decide_eq_true h0)]
    by_cases h1 : RM W H
    · rw [if_neg (by rw [decide_eq_true h1]; decide), rect_eq (lp_of h0) h1, Option.bind_some]
      dsimp only
      rw [impl_InsideRect_eq, Option.bind_some]
      have r1 := px_range (x := x) (r := rx) (w := w) (q := rw_) (m := a % 3) (s := W) (by omega) (by omega) (by omega) (by omega) (by omega) (by omega)
      have r2 := px_range (x := y) (r := ry) (w := h) (q := rh) (m := a / 3) (s := H) (by omega) (by omega) (by omega) (by omega) (by omega) (by omega)
      refine congrArg some ?_
      rw [decide_eq_decide]
      unfold INS
      generalize PX x rx w rw_ (a % 3) W = X at *
      generalize PX y ry h rh (a / 3) H = Y at *
      generalize ps w rw_ W = A at *
      generalize ps h rh H = B at *
      omega
    · rw [if_pos (by rw [decide_eq_false h1]; decide), decide_eq_false (fun q => h1 q.2.1)]
  · rw [if_neg (by rw [decide_eq_false h0]; decide), decide_eq_false (fun q => h0 q.1)]

theorem inside_eq {W H X Y A B : Int} (hr : RM W H) (hX : -1000000 ≤ X ∧ X ≤ 1000000) (hY : -1000000 ≤ Y ∧ Y ≤ 1000000) (hA : 0 ≤ A ∧ A ≤ 700) (hB : 0 ≤ B ∧ B ≤ 700) : spec_inside.f 0 0 W H X Y A B = some (decide (0 ≤ X ∧ 0 ≤ Y ∧ X + A ≤ W ∧ Y + B ≤ H)) := by
  unfold spec_inside.f
  rw [w64 (n := X + A) (by omega) (by omega), w64 (n := Y + B) (by omega) (by omega), w64 (n := 0 + W) (by omega) (by omega), w64 (n := 0 + H) (by omega) (by omega)]
  repeat' split
  all_goals
    refine congrArg some ?_
    first
    | (rw [decide_eq_decide]; omega)
    | (symm; rw [decide_eq_false_iff_not]; omega)
theorem placedIn_eq {x y rx ry w h rw_ rh a W H : Int} (h0 : VP x y rx ry w h rw_ rh a) (h1 : RM W H) : ((spec_placed.f x y rx ry w h rw_ rh a 0 0 W H).bind fun b => spec_inside.f 0 0 W H b.1 b.2.1 b.2.2.1 b.2.2.2) = some (decide (INS x y rx ry w h rw_ rh a W H)) := by
  rw [placed_eq (lp_of h0) h1, Option.bind_some]
  dsimp only
  have r1 := px_range (x := x) (r := rx) (w := w) (q := rw_) (m := a % 3) (s := W) (by omega) (by omega) (by omega) (by omega) (by omega) (by omega)
  have r2 := px_range (x := y) (r := ry) (w := h) (q := rh) (m := a / 3) (s := H) (by omega) (by omega) (by omega) (by omega) (by omega) (by omega)
  exact inside_eq h1 ⟨r1.1, r1.2.1⟩ ⟨r2.1, r2.2.1⟩ r1.2.2 r2.2.2

theorem impl_least_loop {x y rx ry w h rw_ rh a : Int} (hv : VP x y rx ry w h rw_ rh a) (d : Nat) : ∀ (k : Nat) (i : Int), i + d = 401 → 0 ≤ i → d + 11 ≤ k → impl_LeastInside.l0 k i x y rx ry w h rw_ rh a = some (least (fun n => decide (INS x y rx ry w h rw_ rh a n n)) d i) := by
  induction d with
  | zero =>
    intro k i hi h0 hk
    obtain ⟨k, rfl⟩ : ∃ m, k = m + 1 := ⟨k - 1, by omega⟩
    rw [impl_LeastInside.l0, if_neg (by omega)]
    rfl
  | succ d ih =>
    intro k i hi h0 hk
    obtain ⟨k, rfl⟩ : ∃ m, k = m + 10 + 1 := ⟨k - 11, by omega⟩
    have hr : RM i i := by omega
    rw [impl_LeastInside.l0, if_pos (by omega), impl_PlaceInside_eq, Option.bind_some, w64 (n := i + 1) (by omega) (by omega)]
    have e : (VP x y rx ry w h rw_ rh a ∧ RM i i ∧ INS x y rx ry w h rw_ rh a i i) = INS x y rx ry w h rw_ rh a i i := propext ⟨fun q => q.2.2, fun q => ⟨hv, hr, q⟩⟩
    simp only [e]
    rw [least]
    try dsimp only
    split
    · rfl
    · exact ih (k + 10) (i + 1) (by omega) (by omega) (by omega)
theorem impl_least_bad {x y rx ry w h rw_ rh a : Int} (hv : ¬ VP x y rx ry w h rw_ rh a) (d : Nat) : ∀ (k : Nat) (i : Int), i + d = 401 → 0 ≤ i → d + 11 ≤ k → impl_LeastInside.l0 k i x y rx ry w h rw_ rh a = some (-1) := by
  induction d with
  | zero =>
    intro k i hi h0 hk
    obtain ⟨k, rfl⟩ : ∃ m, k = m + 1 := ⟨k - 1, by omega⟩
    rw [impl_LeastInside.l0, if_neg (by omega)]
  | succ d ih =>
    intro k i hi h0 hk
    obtain ⟨k, rfl⟩ : ∃ m, k = m + 10 + 1 := ⟨k - 11, by omega⟩
    rw [impl_LeastInside.l0, if_pos (by omega), impl_PlaceInside_eq, Option.bind_some, w64 (n := i + 1) (by omega) (by omega), decide_eq_false (fun q => hv q.1), if_neg (by decide)]
    exact ih (k + 10) (i + 1) (by omega) (by omega) (by omega)
theorem impl_LeastInside_eq (k : Nat) (x y rx ry w h rw_ rh a : Int) : impl_LeastInside.f (k + 420) x y rx ry w h rw_ rh a = some (if VP x y rx ry w h rw_ rh a then least (fun n => decide (INS x y rx ry w h rw_ rh a n n)) 401 0 else -1) := by
  unfold impl_LeastInside.f
  by_cases hv : VP x y rx ry w h rw_ rh a
  · rw [if_pos hv]
    exact impl_least_loop hv 401 _ 0 (by omega) (by omega) (by omega)
  · rw [if_neg hv]
    exact impl_least_bad hv 401 _ 0 (by omega) (by omega) (by omega)

theorem spec_least_loop {x y rx ry w h rw_ rh a : Int} (hv : VP x y rx ry w h rw_ rh a) (d : Nat) : ∀ (k : Nat) (i : Int), i + d = 401 → 0 ≤ i → d + 1 ≤ k → spec_LeastInside.l0 k i x y rx ry w h rw_ rh a = some (least (fun n => decide (INS x y rx ry w h rw_ rh a n n)) d i) := by
  induction d with
  | zero =>
    intro k i hi h0 hk
    obtain ⟨k, rfl⟩ : ∃ m, k = m + 1 := ⟨k - 1, by omega⟩
    rw [spec_LeastInside.l0, if_neg (by omega)]
    rfl
  | succ d ih =>
    intro k i hi h0 hk
    obtain ⟨k, rfl⟩ : ∃ m, k = m + 1 := ⟨k - 1, by omega⟩
    have hr : RM i i := by omega
    have r1 := px_range (x := x) (r := rx) (w := w) (q := rw_) (m := a % 3) (s := i) (by omega) (by omega) (by omega) (by omega) (by omega) (by omega)
    have r2 := px_range (x := y) (r := ry) (w := h) (q := rh) (m := a / 3) (s := i) (by omega) (by omega) (by omega) (by omega) (by omega) (by omega)
    rw [spec_LeastInside.l0, if_pos (by omega), placed_eq (lp_of hv) hr, Option.bind_some]
    try dsimp only
    rw [inside_eq hr ⟨r1.1, r1.2.1⟩ ⟨r2.1, r2.2.1⟩ r1.2.2 r2.2.2, Option.bind_some, w64 (n := i + 1) (by omega) (by omega), least]
    try dsimp only
    show (if decide (INS x y rx ry w h rw_ rh a i i) = true then some i else spec_LeastInside.l0 k (i + 1) x y rx ry w h rw_ rh a) = _
    split
    · rfl
    · exact ih k (i + 1) (by omega) (by omega) (by omega)
theorem spec_LeastInside_eq (k : Nat) (x y rx ry w h rw_ rh a : Int) : spec_LeastInside.f (k + 420) x y rx ry w h rw_ rh a = some (if VP x y rx ry w h rw_ rh a then least (fun n => decide (INS x y rx ry w h rw_ rh a n n)) 401 0 else -1) := by
  unfold spec_LeastInside.f
  rw [spec_validPlace_eq, Option.bind_some]
  by_cases hv : VP x y rx ry w h rw_ rh a
  · rw [if_pos hv, if_pos (decide_eq_true hv)]
    exact spec_least_loop hv 401 _ 0 (by omega) (by omega) (by omega)
  · rw [if_neg hv, if_neg (by rw [decide_eq_false hv]; decide)]

theorem FnExactLeastInside (a0_0 a0_1 a0_2 a0_3 a0_4 a0_5 a0_6 a0_7 a0_8 : Int) (w0_0 : (Lit.int .i64 a0_0).wf = true) (w0_1 : (Lit.int .i64 a0_1).wf = true) (w0_2 : (Lit.int .i64 a0_2).wf = true) (w0_3 : (Lit.int .i64 a0_3).wf = true) (w0_4 : (Lit.int .i64 a0_4).wf = true) (w0_5 : (Lit.int .i64 a0_5).wf = true) (w0_6 : (Lit.int .i64 a0_6).wf = true) (w0_7 : (Lit.int .i64 a0_7).wf = true) (w0_8 : (Lit.int .i64 a0_8).wf = true) : ∃ k, laws_FnExactLeastInside.f k a0_0 a0_1 a0_2 a0_3 a0_4 a0_5 a0_6 a0_7 a0_8 = some true := by
  refine ⟨420, ?_⟩
  unfold laws_FnExactLeastInside.f laws_toPlace.f
  simp only [Option.bind_some, spec_LeastInside_eq 0, impl_LeastInside_eq 0, if_true]

end Go.Proofs.Ytfjpombdnbjomaa.Pure
