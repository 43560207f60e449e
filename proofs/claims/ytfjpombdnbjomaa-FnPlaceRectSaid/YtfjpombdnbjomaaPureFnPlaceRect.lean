/- The plain side of FnPlaceRect: the printed function answers true at every input; no condition is added. -/
import Derived.Test.YtfjpombdnbjomaaQFnPlaceRectx0
import Derived.Test.YtfjpombdnbjomaaQFnPlaceRectx1
import Derived.Test.YtfjpombdnbjomaaQFnPlaceRectx2
import Derived.Test.YtfjpombdnbjomaaQFnPlaceRectx3
import Derived.Test.YtfjpombdnbjomaaBase
namespace Go.Proofs.Ytfjpombdnbjomaa.Pure
open Go.RowKit Go.Proofs.Ytfjpombdnbjomaa.PFnPlaceRect Go.Proofs.YtfjpombdnbjomaaW.PrintWords Go.Proofs.YtfjpombdnbjomaaW.PrintLast Go.Proofs.YtfjpombdnbjomaaW.PrintMore Go.Proofs.Ytfjpombdnbjomaa.Base
set_option linter.unusedVariables false
set_option linter.unusedSimpArgs false

theorem within_eq (a b c : Int) : impl_within.f a b c = some (decide (b ≤ a ∧ a ≤ c)) := by
  unfold impl_within.f
  by_cases h : b ≤ a
  · rw [if_pos h]; simp [h]
  · rw [if_neg h]; simp [h]

theorem inrange_eq (a b c : Int) : spec_inRange.f a b c = some (decide (b ≤ a ∧ a ≤ c)) := by
  unfold spec_inRange.f
  by_cases h : b ≤ a
  · rw [if_pos h]; simp [h]
  · rw [if_neg h]; simp [h]

theorem impl_ValidPlace_l0 (k : Nat) (L : List Int) (n i : Int) (x y rx ry w h rw_ rh a : Int) : impl_ValidPlace.l0 (k + 1) L n i x y rx ry w h rw_ rh a = if i < n then (if 0 ≤ i then (if i < (L.length : Int) then (if -300 ≤ rd L i ∧ rd L i ≤ 300 then impl_ValidPlace.l0 k L n (wrap64 (i + 1)) x y rx ry w h rw_ rh a else some false) else none) else none) else impl_ValidPlace.l1 k [rx, ry, rw_, rh] 4 0 x y rx ry w h rw_ rh a := by
  rw [impl_ValidPlace.l0]
  simp only [within_eq, Option.bind_some, decide_eq_true_eq]
  rfl
theorem impl_ValidPlace_l1 (k : Nat) (L : List Int) (n i : Int) (x y rx ry w h rw_ rh a : Int) : impl_ValidPlace.l1 (k + 1) L n i x y rx ry w h rw_ rh a = if i < n then (if 0 ≤ i then (if i < (L.length : Int) then (if 0 ≤ rd L i ∧ rd L i ≤ 1000 then impl_ValidPlace.l1 k L n (wrap64 (i + 1)) x y rx ry w h rw_ rh a else some false) else none) else none) else some (decide (0 ≤ a ∧ a ≤ 8)) := by
  rw [impl_ValidPlace.l1]
  simp only [within_eq, Option.bind_some, decide_eq_true_eq]
theorem impl_ValidPlace_eq (k : Nat) (x y rx ry w h rw_ rh a : Int) : impl_ValidPlace.f (k + 10) x y rx ry w h rw_ rh a = some (decide (VP x y rx ry w h rw_ rh a)) := by
  unfold impl_ValidPlace.f
  rw [Option.bind_some]
  have d1 : wrap64 1 = 1 := by unfold wrap64; omega
  have d2 : wrap64 2 = 2 := by unfold wrap64; omega
  have d3 : wrap64 3 = 3 := by unfold wrap64; omega
  have d4 : wrap64 4 = 4 := by unfold wrap64; omega
  have a0 : rd [x, y, w, h] 0 = x := rfl
  have a1 : rd [x, y, w, h] 1 = y := rfl
  have a2 : rd [x, y, w, h] 2 = w := rfl
  have a3 : rd [x, y, w, h] 3 = h := rfl
  have b0 : rd [rx, ry, rw_, rh] 0 = rx := rfl
  have b1 : rd [rx, ry, rw_, rh] 1 = ry := rfl
  have b2 : rd [rx, ry, rw_, rh] 2 = rw_ := rfl
  have b3 : rd [rx, ry, rw_, rh] 3 = rh := rfl
  have s0 : (([x, y, w, h] : List Int).length : Int) = 4 := rfl
  have s1 : (([rx, ry, rw_, rh] : List Int).length : Int) = 4 := rfl
  simp only [impl_ValidPlace_l0, impl_ValidPlace_l1, s0, s1, d1, d2, d3, d4, a0, a1, a2, a3, b0, b1, b2, b3, Int.reduceLT, Int.reduceLE, Int.reduceAdd, ↓reduceIte]
  repeat' split
  all_goals
    refine congrArg some ?_
    first
    | (rw [decide_eq_decide]; omega)
    | (symm; rw [decide_eq_false_iff_not]; omega)

theorem spec_validPlace_eq (x y rx ry w h rw_ rh a : Int) : spec_validPlace.f x y rx ry w h rw_ rh a = some (decide (VP x y rx ry w h rw_ rh a)) := by
  unfold spec_validPlace.f spec_validAnchor.f
  simp only [inrange_eq, Option.bind_some, decide_eq_true_eq]
  repeat' split
  all_goals
    refine congrArg some ?_
    first
    | (rw [decide_eq_decide]; omega)
    | (symm; rw [decide_eq_false_iff_not]; omega)

theorem sizeOk_eq (W H : Int) : impl_sizeOk.f W H = some (decide (RM W H)) := by
  unfold impl_sizeOk.f
  simp only [within_eq, Option.bind_some, decide_eq_true_eq]
  split
  all_goals
    refine congrArg some ?_
    first
    | (rw [decide_eq_decide]; omega)
    | (symm; rw [decide_eq_false_iff_not]; omega)

theorem goodRoom_eq (W H : Int) : spec_goodRoom.f W H = some (decide (RM W H)) := by
  unfold spec_goodRoom.f
  simp only [inrange_eq, Option.bind_some, decide_eq_true_eq]
  split
  all_goals
    refine congrArg some ?_
    first
    | (rw [decide_eq_decide]; omega)
    | (symm; rw [decide_eq_false_iff_not]; omega)

theorem rect_eq {x y rx ry w h rw_ rh a W H : Int} (hv : LP x y rx ry w h rw_ rh a) (hr : RM W H) : impl_Place_rect.f x y rx ry w h rw_ rh a W H = some (PX x rx w rw_ (a % 3) W, PX y ry h rh (a / 3) H, ps w rw_ W, ps h rh H) := by
  obtain ⟨hx, hy, hrx, hry, hw, hh, hrw, hrh, ha⟩ := hv
  obtain ⟨hW, hH⟩ := hr
  unfold impl_Place_rect.f impl_part.f
  simp only [Option.bind_some, mx_eq]
  have d1 := dir_eq hx hrx hw hrw (m := a % 3) (by omega) hW
  have d2 := dir_eq hy hry hh hrh (m := a / 3) (by omega) hH
  rw [tm2 ha.1, td2 ha.1, w64 (n := a / 3) (by omega) (by omega), d1.1, d2.1, d1.2.1, d2.2.1]
  show some (wrap64 (pl x rx W - wrap64 (Int.tdiv (wrap64 (ps w rw_ W * (a % 3))) 2)), wrap64 (pl y ry H - wrap64 (Int.tdiv (wrap64 (ps h rh H * (a / 3))) 2)), ps w rw_ W, ps h rh H) = _
  rw [d1.2.2.1, d2.2.2.1, d1.2.2.2.1, d2.2.2.2.1]

theorem placed_eq {x y rx ry w h rw_ rh a W H : Int} (hv : LP x y rx ry w h rw_ rh a) (hr : RM W H) : spec_placed.f x y rx ry w h rw_ rh a 0 0 W H = some (PX x rx w rw_ (a % 3) W, PX y ry h rh (a / 3) H, ps w rw_ W, ps h rh H) := by
  obtain ⟨hx, hy, hrx, hry, hw, hh, hrw, hrh, ha⟩ := hv
  obtain ⟨hW, hH⟩ := hr
  unfold spec_placed.f spec_part.f
  simp only [Option.bind_some, mx_comm 0, mx_eq]
  have d1 := dir_eq hx hrx hw hrw (m := a % 3) (by omega) hW
  have d2 := dir_eq hy hry hh hrh (m := a / 3) (by omega) hH
  rw [Int.mul_comm W rw_, Int.mul_comm H rh, Int.mul_comm W rx, Int.mul_comm H ry, tm2 ha.1, td2 ha.1, w64 (n := a / 3) (by omega) (by omega), d1.1, d2.1, d1.2.1, d2.2.1]
  show some (wrap64 (0 + wrap64 (pl x rx W - wrap64 (Int.tdiv (wrap64 (ps w rw_ W * (a % 3))) 2))), wrap64 (0 + wrap64 (pl y ry H - wrap64 (Int.tdiv (wrap64 (ps h rh H * (a / 3))) 2))), ps w rw_ W, ps h rh H) = _
  rw [d1.2.2.1, d2.2.2.1, d1.2.2.2.1, d2.2.2.2.1, w64 (n := 0 + PX x rx w rw_ (a % 3) W) (by unfold PX; omega) (by unfold PX; omega), w64 (n := 0 + PX y ry h rh (a / 3) H) (by unfold PX; omega) (by unfold PX; omega), Int.zero_add, Int.zero_add]

theorem lp_of {x y rx ry w h rw_ rh a : Int} (h' : VP x y rx ry w h rw_ rh a) : LP x y rx ry w h rw_ rh a := by omega

theorem px_range {x r w q m s : Int} (hx : -300 ≤ x ∧ x ≤ 300) (hr : 0 ≤ r ∧ r ≤ 1000) (hw : -300 ≤ w ∧ w ≤ 300) (hq : 0 ≤ q ∧ q ≤ 1000) (hm : 0 ≤ m ∧ m ≤ 2) (hs : 0 ≤ s ∧ s ≤ 400) : -1000000 ≤ PX x r w q m s ∧ PX x r w q m s ≤ 1000000 ∧ 0 ≤ ps w q s ∧ ps w q s ≤ 700 := by
  have t1 := thou hr.1 hr.2 hs.1 hs.2
  have t2 := thou hq.1 hq.2 hs.1 hs.2
  have a0 := ps_nonneg w q s
  have a1 : ps w q s ≤ 700 := by unfold ps; omega
  have p := part_range' a0 a1 hm.1 hm.2
  unfold PX pl
  generalize ps w q s * m = z at *
  generalize ps w q s = A at *
  omega

theorem impl_PlaceRect_eq (k : Nat) (x y rx ry w h rw_ rh a W H : Int) : impl_PlaceRect.f (k + 10) x y rx ry w h rw_ rh a W H = some (if VP x y rx ry w h rw_ rh a ∧ RM W H then (PX x rx w rw_ (a % 3) W, PX y ry h rh (a / 3) H, ps w rw_ W, ps h rh H) else (0, 0, 0, 0)) := by
  unfold impl_PlaceRect.f
  rw [impl_ValidPlace_eq, sizeOk_eq, Option.bind_some, Option.bind_some]
  by_cases h0 : VP x y rx ry w h rw_ rh a
  · by_cases h1 : RM W H
    · rw [if_pos (decide_eq_true h0), if_pos (decide_eq_true h1), if_pos ⟨h0, h1⟩, rect_eq (lp_of h0) h1, Option.bind_some]
    · rw [if_pos (decide_eq_true h0), if_neg (by rw [decide_eq_false h1]; decide), if_neg (fun q => h1 q.2)]
  · rw [if_neg (by rw [decide_eq_false h0]; decide), if_neg (fun q => h0 q.1)]

theorem spec_PlaceRect_eq (x y rx ry w h rw_ rh a W H : Int) : spec_PlaceRect.f x y rx ry w h rw_ rh a W H = some (if VP x y rx ry w h rw_ rh a ∧ RM W H then (PX x rx w rw_ (a % 3) W, PX y ry h rh (a / 3) H, ps w rw_ W, ps h rh H) else (0, 0, 0, 0)) := by
  unfold spec_PlaceRect.f
  rw [spec_validPlace_eq, goodRoom_eq, Option.bind_some, Option.bind_some]
  by_cases h0 : VP x y rx ry w h rw_ rh a
  · by_cases h1 : RM W H
    · rw [if_pos (decide_eq_true h0), if_pos (decide_eq_true h1), if_pos ⟨h0, h1⟩, placed_eq (lp_of h0) h1, Option.bind_some]
    · rw [if_pos (decide_eq_true h0), if_neg (by rw [decide_eq_false h1]; decide), if_neg (fun q => h1 q.2)]
  · rw [if_neg (by rw [decide_eq_false h0]; decide), if_neg (fun q => h0 q.1)]

theorem newReader_ok (l : List Int) (hl : Bytes l) : ∃ s, spec_newReader.f l = some (s, 0) ∧ Bytes s ∧ s.length ≤ 2000 := by
  unfold spec_newReader.f
  by_cases h : (l.length : Int) > 2000
  · rw [if_pos h, if_pos (by omega)]
    exact ⟨_, rfl, fun x hx => hl x (List.mem_of_mem_take hx), List.length_take_le _ _⟩
  · rw [if_neg h]
    exact ⟨l, rfl, hl, by omega⟩
theorem pick_ok (k : Nat) {s : List Int} {p : Int} (n : Int) (hs : Bytes s) (hl : s.length ≤ 2000) (p0 : 0 ≤ p) (p1 : p ≤ 1000000) :
    ∃ v, spec_reader_pick.f (k + 1) s p n = some (v, p + 1) ∧ 0 ≤ v ∧ (1 ≤ n → v < n) ∧ (n < 1 → v = 0) := by
  unfold spec_reader_pick.f
  rw [w64 (n := p + 1) (by omega) (by omega)]
  by_cases h1 : n < 1
  · rw [if_pos h1, spec_reader_pick.j0, if_pos rfl]
    exact ⟨0, rfl, by omega, by omega, fun _ => rfl⟩
  · rw [if_neg h1, spec_reader_pick.j0]
    by_cases h2 : (s.length : Int) = 0
    · rw [if_pos (by simp only [h2]; rfl)]
      exact ⟨0, rfl, by omega, by omega, fun _ => rfl⟩
    · rw [if_neg (by rw [beq_iff_eq]; exact h2), w64 (n := p + 1 - 1) (by omega) (by omega), show p + 1 - 1 = p from by omega]
      by_cases h3 : p < (s.length : Int)
      · have hr := rd_byte hs p
        rw [if_pos h3, if_pos p0, if_neg (by omega), w64 (n := rd s p) (by omega) (by omega)]
        have ht := tmod_lt hr.1 (show 1 ≤ n by omega)
        exact ⟨_, rfl, ht.1, fun _ => ht.2, fun h => by omega⟩
      · have hlen : 1 ≤ (s.length : Int) := by omega
        have q1 := tmod_lt p0 hlen
        have q2 := tmod_lt (a := p * 7 + 3) (by omega) hlen
        have qd : 0 ≤ Int.tdiv p (s.length : Int) ∧ Int.tdiv p (s.length : Int) ≤ p := by
          rw [td2 p0]
          exact ⟨Int.ediv_nonneg p0 (by omega), Int.ediv_le_self _ p0⟩
        rw [if_neg h3, if_neg h2, if_pos q1.1, if_pos q1.2, w64 (n := p * 7) (by omega) (by omega), w64 (n := p * 7 + 3) (by omega) (by omega), if_pos q2.1, if_pos q2.2, if_neg (by omega)]
        have ra := rd_byte hs (Int.tmod p (s.length : Int))
        have rb := rd_byte hs (Int.tmod (p * 7 + 3) (s.length : Int))
        generalize rd s (Int.tmod p (s.length : Int)) = a at *
        generalize rd s (Int.tmod (p * 7 + 3) (s.length : Int)) = b at *
        generalize Int.tdiv p (s.length : Int) = d at *
        rw [w64 (n := a) (by omega) (by omega), w64 (n := b) (by omega) (by omega), w64 (n := a * 131) (by omega) (by omega), w64 (n := b * 1117) (by omega) (by omega), w64 (n := a * 131 + b * 1117) (by omega) (by omega), w64 (n := p * 29) (by omega) (by omega), w64 (n := a * 131 + b * 1117 + p * 29) (by omega) (by omega), w64 (n := d) (by omega) (by omega), w64 (n := d * 53) (by omega) (by omega), w64 (n := a * 131 + b * 1117 + p * 29 + d * 53) (by omega) (by omega)]
        have hx : 0 ≤ a * 131 + b * 1117 + p * 29 + d * 53 ∧ a * 131 + b * 1117 + p * 29 + d * 53 ≤ 1000000000 := by omega
        generalize a * 131 + b * 1117 + p * 29 + d * 53 = x at *
        rw [td2 hx.1, w64 (n := x / 64) (by omega) (by omega)]
        have ht := tmod_lt (xor_range (a := x) (b := x / 64) (by omega) (by omega) (by omega) (by omega)) (show 1 ≤ n by omega)
        exact ⟨_, rfl, ht.1, fun _ => ht.2, fun h => by omega⟩

theorem one_ok (k : Nat) {s : List Int} {p : Int} (L : List Int) (hL : 1 ≤ (L.length : Int)) (hs : Bytes s) (hl : s.length ≤ 2000) (p0 : 0 ≤ p) (p1 : p ≤ 1000000) :
    ∃ v, spec_reader_one.f (k + 1) s p L = some (v, p + 1) ∧ v ∈ L := by
  obtain ⟨v, e, v0, v1, _⟩ := pick_ok k (L.length : Int) hs hl p0 p1
  unfold spec_reader_one.f
  rw [e, Option.bind_some]
  simp only
  rw [if_pos v0, if_pos (v1 hL)]
  exact ⟨_, rfl, rd_mem v0 (v1 hL)⟩

theorem pick_bind {β : Type} {P : β → Prop} {k : Nat} {s : List Int} {p n : Int} {f : Int × Int → Option β} (hs : Bytes s) (hl : s.length ≤ 2000) (p0 : 0 ≤ p) (p1 : p ≤ 1000000)
    (h : ∀ v, 0 ≤ v → (1 ≤ n → v < n) → ∃ r, f (v, p + 1) = some r ∧ P r) : ∃ r, (spec_reader_pick.f (k + 1) s p n).bind f = some r ∧ P r := by
  obtain ⟨v, e, v0, v1, _⟩ := pick_ok k n hs hl p0 p1
  rw [e, Option.bind_some]
  exact h v v0 v1

theorem one_bind {β : Type} {P : β → Prop} {k : Nat} {s : List Int} {p : Int} {L : List Int} {f : Int × Int → Option β} (hs : Bytes s) (hl : s.length ≤ 2000) (p0 : 0 ≤ p) (p1 : p ≤ 1000000) (hL : 1 ≤ (L.length : Int))
    (h : ∀ v, v ∈ L → ∃ r, f (v, p + 1) = some r ∧ P r) : ∃ r, (spec_reader_one.f (k + 1) s p L).bind f = some r ∧ P r := by
  obtain ⟨v, e, hv⟩ := one_ok k L hL hs hl p0 p1
  rw [e, Option.bind_some]
  exact h v hv

theorem goodPlace_ok (k : Nat) {s : List Int} {p : Int} (hs : Bytes s) (hl : s.length ≤ 2000) (p0 : 0 ≤ p) (p1 : p ≤ 900000) : ∃ r, spec_goodPlace.f (k + 1) s p = some r ∧ (0 ≤ r.2.2.2.2.2.2.2.2.2 ∧ r.2.2.2.2.2.2.2.2.2 ≤ p + 50) := by
  unfold spec_goodPlace.f
  repeat' first
    | (refine pick_bind hs hl (by omega) (by omega) (fun _ _ _ => ?_); try dsimp only)
    | (refine one_bind hs hl (by omega) (by omega) (by simp) (fun _ _ => ?_); try dsimp only)
    | split
  all_goals exact ⟨_, rfl, by dsimp only; omega, by dsimp only; omega⟩

theorem somePlace_ok (k : Nat) {s : List Int} {p : Int} (hs : Bytes s) (hl : s.length ≤ 2000) (p0 : 0 ≤ p) (p1 : p ≤ 900000) : ∃ r, spec_somePlace.f (k + 1) s p = some r ∧ (0 ≤ r.2.2.2.2.2.2.2.2.2 ∧ r.2.2.2.2.2.2.2.2.2 ≤ p + 100) := by
  unfold spec_somePlace.f
  obtain ⟨r, e, _, _⟩ := goodPlace_ok k hs hl p0 p1
  rw [e, Option.bind_some]
  repeat' first
    | (refine pick_bind hs hl (by omega) (by omega) (fun _ _ _ => ?_); try dsimp only)
    | (refine one_bind hs hl (by omega) (by omega) (by simp) (fun _ _ => ?_); try dsimp only)
    | split
  all_goals exact ⟨_, rfl, by dsimp only; omega, by dsimp only; omega⟩

theorem placeRoom_ok (k : Nat) {s : List Int} {p : Int} (hs : Bytes s) (hl : s.length ≤ 2000) (p0 : 0 ≤ p) (p1 : p ≤ 900000) : ∃ r, spec_placeRoom.f (k + 1) s p = some r ∧ (0 ≤ r.2.2.2.2.2.2.2.2.2.2.2 ∧ r.2.2.2.2.2.2.2.2.2.2.2 ≤ p + 200) := by
  unfold spec_placeRoom.f
  obtain ⟨r, e, _, _⟩ := somePlace_ok k hs hl p0 p1
  rw [e, Option.bind_some]
  try dsimp only
  repeat' first
    | (refine pick_bind hs hl (by omega) (by omega) (fun _ _ _ => ?_); try dsimp only)
    | (refine one_bind hs hl (by omega) (by omega) (by simp) (fun _ _ => ?_); try dsimp only)
    | split
  all_goals exact ⟨_, rfl, by dsimp only; omega, by dsimp only; omega⟩

theorem draw_ok (k : Nat) {l : List Int} (hb : Bytes l) : ∃ r, spec_DrawPlaceRect.f (k + 1) l = some r ∧ True := by
  unfold spec_DrawPlaceRect.f
  obtain ⟨s, e, hs, hl⟩ := newReader_ok l hb
  rw [e, Option.bind_some]
  dsimp only
  obtain ⟨r, e, _, _⟩ := placeRoom_ok k (p := 0) hs hl (by omega) (by omega)
  rw [e, Option.bind_some]
  try dsimp only
  all_goals exact ⟨_, rfl, trivial⟩

theorem FnPlaceRect : laws_FnPlaceRect.Pure := by
  intro l0 _ _ hw
  refine ⟨40, ?_⟩
  unfold laws_FnPlaceRect.f
  by_cases hb : (l0.length : Int) > 1048576
  · rw [if_pos hb]
  obtain ⟨⟨x, y, rx, ry, w, h, rw_, rh, a, W, H⟩, e, _⟩ := draw_ok 39 (bytes_of hw)
  rw [if_neg hb, e, Option.bind_some]
  clear e
  dsimp only
  simp only [impl_PlaceRect_eq 30, impl_PlaceRect_eq 29, spec_PlaceRect_eq, impl_ValidPlace_eq 30, Option.bind_some, laws_FnPlaceRect.j0, laws_equalRect.f, beq_self_eq_true, Bool.and_self, if_true, decide_eq_true_eq]
  by_cases hv : VP x y rx ry w h rw_ rh a
  · rw [if_pos hv]
    by_cases hr : RM W H
    · have hq : VP x y rx ry w h rw_ rh a ∧ RM W H := ⟨hv, hr⟩
      have h0 : VP x y rx ry w h rw_ rh 0 ∧ RM W H := ⟨by omega, hr⟩
      have h8 : VP x y rx ry w h rw_ rh 8 ∧ RM W H := ⟨by omega, hr⟩
      rw [if_neg (show ¬ W < 0 by omega), if_neg (show ¬ W > 400 by omega), if_neg (show ¬ H < 0 by omega), if_neg (show ¬ H > 400 by omega)]
      simp only [if_pos hq, if_pos h0, if_pos h8]
      rw [show (0 : Int) % 3 = 0 from rfl, show (0 : Int) / 3 = 0 from rfl, show (8 : Int) % 3 = 2 from rfl, show (8 : Int) / 3 = 2 from rfl]
      have b1 := PX_between (x := x) (r := rx) (w := w) (q := rw_) (m := a % 3) (s := W) (by omega) (by omega)
      have b2 := PX_between (x := y) (r := ry) (w := h) (q := rh) (m := a / 3) (s := H) (by omega) (by omega)
      have r1 := px_range (x := x) (r := rx) (w := w) (q := rw_) (m := a % 3) (s := W) (by omega) (by omega) (by omega) (by omega) (by omega) (by omega)
      have r2 := px_range (x := y) (r := ry) (w := h) (q := rh) (m := a / 3) (s := H) (by omega) (by omega) (by omega) (by omega) (by omega) (by omega)
      have t1 := thou (r := rx) (s := W) (by omega) (by omega) (by omega) (by omega)
      have t2 := thou (r := ry) (s := H) (by omega) (by omega) (by omega) (by omega)
      rw [PX_0, PX_0, PX_2, PX_2]
      have u1 : -1000 ≤ pl x rx W ∧ pl x rx W ≤ 1000 := by unfold pl; omega
      have u2 : -1000 ≤ pl y ry H ∧ pl y ry H ≤ 1000 := by unfold pl; omega
      generalize PX x rx w rw_ (a % 3) W = X at *
      generalize PX y ry h rh (a / 3) H = Y at *
      generalize pl x rx W = P1 at *
      generalize pl y ry H = P2 at *
      generalize ps w rw_ W = A at *
      generalize ps h rh H = B at *
      rw [w64 (n := P1 - A + A) (by omega) (by omega), w64 (n := P2 - B + B) (by omega) (by omega)]
      clear hq h0 h8 t1 t2
      repeat' split
      all_goals first
        | rfl
        | (exfalso; omega)
        | (refine congrArg some ?_; simp only [beq_iff_eq, Bool.and_eq_true, decide_eq_true_eq, true_and]; omega)
    · by_cases s1 : W < 0
      · rw [if_pos s1]
      rw [if_neg s1]
      by_cases s2 : W > 400
      · rw [if_pos s2]
      rw [if_neg s2]
      by_cases s3 : H < 0
      · rw [if_pos s3]
      rw [if_neg s3]
      by_cases s4 : H > 400
      · rw [if_pos s4]
      exfalso
      omega
  · rw [if_neg hv]

end Go.Proofs.Ytfjpombdnbjomaa.Pure
