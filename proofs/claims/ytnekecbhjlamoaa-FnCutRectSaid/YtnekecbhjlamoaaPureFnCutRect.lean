/- The plain side of FnCutRect: the printed function answers true at every input; no condition is added. -/
import Derived.Test.YtnekecbhjlamoaaQFnCutRectx0
import Derived.Test.YtnekecbhjlamoaaQFnCutRectx1
import Derived.Test.YtnekecbhjlamoaaQFnCutRectx2
import Derived.Test.YtnekecbhjlamoaaQFnCutRectx3
import Derived.Test.YtnekecbhjlamoaaQFnCutRectx4
import Derived.Test.YtnekecbhjlamoaaQFnCutRectx5
import Derived.Test.YtnekecbhjlamoaaBase
namespace Go.Proofs.Ytnekecbhjlamoaa.Pure
open Go.RowKit Go.Proofs.Ytnekecbhjlamoaa.PFnCutRect Go.Proofs.YtnekecbhjlamoaaW.PrintWords Go.Proofs.YtnekecbhjlamoaaW.PrintLast Go.Proofs.YtnekecbhjlamoaaW.PrintMore Go.Proofs.Ytnekecbhjlamoaa.Base
set_option linter.unusedVariables false
set_option linter.unusedSimpArgs false

theorem within_eq (a b c : Int) : impl_within.f a b c = some (decide (b ≤ a ∧ a ≤ c)) := by
  unfold impl_within.f
  by_cases h : b ≤ a
  · rw [if_pos h]; simp [h]
  · rw [if_neg h]; simp [h]

theorem inrange_eq (a b c : Int) : spec_inRange.f a b c = some (decide (b ≤ a ∧ a ≤ c)) := by
  unfold spec_inRange.f
  by_cases h : b ≤ a
  · rw [if_pos h]; simp [h]
  · rw [if_neg h]; simp [h]

theorem impl_ValidRect_eq (x y w h : Int) : impl_ValidRect.f x y w h = some (decide (VR x y w h)) := by
  unfold impl_ValidRect.f
  simp only [within_eq, Option.bind_some, decide_eq_true_eq]
  split
  · split
    · rw [w64 (n := 1000 - w) (by omega) (by omega), w64 (n := 1000 - h) (by omega) (by omega)]
      split
      · refine congrArg some ?_
        rw [decide_eq_decide]
        omega
      · refine congrArg some ?_
        symm
        rw [decide_eq_false_iff_not]
        omega
    · refine congrArg some ?_
      symm
      rw [decide_eq_false_iff_not]
      omega
  · refine congrArg some ?_
    symm
    rw [decide_eq_false_iff_not]
    omega

theorem spec_validRect_eq (x y w h : Int) : spec_validRect.f x y w h = some (decide (VR x y w h)) := by
  unfold spec_validRect.f
  simp only [inrange_eq, Option.bind_some, decide_eq_true_eq]
  split
  · split
    · rw [w64 (n := 1000 - w) (by omega) (by omega), w64 (n := 1000 - h) (by omega) (by omega)]
      split
      · refine congrArg some ?_
        rw [decide_eq_decide]
        omega
      · refine congrArg some ?_
        symm
        rw [decide_eq_false_iff_not]
        omega
    · refine congrArg some ?_
      symm
      rw [decide_eq_false_iff_not]
      omega
  · refine congrArg some ?_
    symm
    rw [decide_eq_false_iff_not]
    omega

theorem impl_CutRect_eq (k : Nat) (x y w h s n : Int) : impl_CutRect.f (k + 1) x y w h s n = some (if VR x y w h ∧ (0 ≤ s ∧ s ≤ 3) ∧ 0 ≤ n ∧ n ≤ 400 then (if s = 0 then (x, y, w, min n h, x, y + min n h, w, h - min n h) else if s = 1 then (x, y + (h - min n h), w, min n h, x, y, w, h - min n h) else if s = 2 then (x, y, min n w, h, x + min n w, y, w - min n w, h) else (x + (w - min n w), y, min n w, h, x, y, w - min n w, h)) else (0, 0, 0, 0, 0, 0, 0, 0)) := by
  unfold impl_CutRect.f impl_Rect_cut.f
  simp only [impl_Rect_cut.j0, impl_ValidRect_eq, within_eq, Option.bind_some, decide_eq_true_eq, mn_eq, beq_iff_eq, if_true]
  by_cases h0 : VR x y w h
  · rw [if_pos h0]
    by_cases h1 : 0 ≤ s ∧ s ≤ 3
    · rw [if_pos h1]
      by_cases h2 : 0 ≤ n ∧ n ≤ 400
      · rw [if_pos h2, if_pos (show VR x y w h ∧ (0 ≤ s ∧ s ≤ 3) ∧ 0 ≤ n ∧ n ≤ 400 from ⟨h0, h1, h2⟩), w64 (n := h - min n h) (by omega) (by omega), w64 (n := w - min n w) (by omega) (by omega), w64 (n := y + (h - min n h)) (by omega) (by omega), w64 (n := x + (w - min n w)) (by omega) (by omega), w64 (n := y + min n h) (by omega) (by omega), w64 (n := x + min n w) (by omega) (by omega)]
        by_cases s0 : s = 0
        · simp only [if_pos s0, Option.bind_some]
        · by_cases s1 : s = 1
          · simp only [if_neg s0, if_pos s1, Option.bind_some]
          · by_cases s2 : s = 2
            · simp only [if_neg s0, if_neg s1, if_pos s2, Option.bind_some]
            · simp only [if_neg s0, if_neg s1, if_neg s2, Option.bind_some]
      · rw [if_neg h2, if_neg (fun q => h2 q.2.2)]
    · rw [if_neg h1, if_neg (fun q => h1 q.2.1)]
  · rw [if_neg h0, if_neg (fun q => h0 q.1)]

theorem spec_CutRect_eq (x y w h s n : Int) : spec_CutRect.f x y w h s n = some (if VR x y w h ∧ (0 ≤ s ∧ s ≤ 3) ∧ 0 ≤ n ∧ n ≤ 400 then (if s = 0 then (x, y, w, min n h, x, y + min n h, w, h - min n h) else if s = 1 then (x, y + (h - min n h), w, min n h, x, y, w, h - min n h) else if s = 2 then (x, y, min n w, h, x + min n w, y, w - min n w, h) else (x + (w - min n w), y, min n w, h, x, y, w - min n w, h)) else (0, 0, 0, 0, 0, 0, 0, 0)) := by
  unfold spec_CutRect.f spec_cut.f spec_validSide.f
  simp only [spec_validRect_eq, inrange_eq, Option.bind_some, decide_eq_true_eq, mn_eq]
  by_cases h0 : VR x y w h
  · rw [if_pos h0]
    by_cases h1 : 0 ≤ s ∧ s ≤ 3
    · rw [if_pos h1]
      by_cases h2 : 0 ≤ n ∧ n ≤ 400
      · rw [if_pos h2, if_pos (show VR x y w h ∧ (0 ≤ s ∧ s ≤ 3) ∧ 0 ≤ n ∧ n ≤ 400 from ⟨h0, h1, h2⟩), w64 (n := h - min n h) (by omega) (by omega), w64 (n := w - min n w) (by omega) (by omega), w64 (n := y + (h - min n h)) (by omega) (by omega), w64 (n := x + (w - min n w)) (by omega) (by omega), w64 (n := y + min n h) (by omega) (by omega), w64 (n := x + min n w) (by omega) (by omega)]
        by_cases s0 : s = 0
        · simp only [if_pos s0, Option.bind_some]
        · by_cases s1 : s = 1
          · simp only [if_neg s0, if_pos s1, Option.bind_some]
          · by_cases s2 : s = 2
            · simp only [if_neg s0, if_neg s1, if_pos s2, Option.bind_some]
            · simp only [if_neg s0, if_neg s1, if_neg s2, Option.bind_some]
      · rw [if_neg h2, if_neg (fun q => h2 q.2.2)]
    · rw [if_neg h1, if_neg (fun q => h1 q.2.1)]
  · rw [if_neg h0, if_neg (fun q => h0 q.1)]

theorem impl_MeetRects_eq (x y w h x' y' w' h' : Int) : impl_MeetRects.f x y w h x' y' w' h' = some (if VR x y w h ∧ VR x' y' w' h' ∧ 1 ≤ min (x + w) (x' + w') - max x x' ∧ 1 ≤ min (y + h) (y' + h') - max y y' then (max x x', max y y', min (x + w) (x' + w') - max x x', min (y + h) (y' + h') - max y y', true) else (0, 0, 0, 0, false)) := by
  unfold impl_MeetRects.f impl_Rect_meet.f
  simp only [impl_ValidRect_eq, Option.bind_some, decide_eq_true_eq, mn_eq, mx_eq, lt_one]
  by_cases h0 : VR x y w h
  · rw [if_pos h0]
    by_cases h1 : VR x' y' w' h'
    · rw [if_pos h1, w64 (n := x + w) (by omega) (by omega), w64 (n := x' + w') (by omega) (by omega), w64 (n := y + h) (by omega) (by omega), w64 (n := y' + h') (by omega) (by omega), w64 (n := min (x + w) (x' + w') - max x x') (by omega) (by omega), w64 (n := min (y + h) (y' + h') - max y y') (by omega) (by omega)]
      by_cases h2 : min (x + w) (x' + w') - max x x' ≤ 0
      · rw [if_pos h2, Option.bind_some, if_neg (by omega)]
      · rw [if_neg h2]
        by_cases h3 : min (y + h) (y' + h') - max y y' ≤ 0
        · rw [if_pos h3, Option.bind_some, if_neg (by omega)]
        · rw [if_neg h3, Option.bind_some, if_pos ⟨h0, h1, by omega, by omega⟩]
    · rw [if_neg h1, if_neg (fun q => h1 q.2.1)]
  · rw [if_neg h0, if_neg (fun q => h0 q.1)]

theorem impl_CoverRects_eq (k : Nat) (x y w h x' y' w' h' : Int) : impl_CoverRects.f (k + 1) x y w h x' y' w' h' = some (if VR x y w h ∧ VR x' y' w' h' ∧ VR (min x x') (min y y') (max (x + w) (x' + w') - min x x') (max (y + h) (y' + h') - min y y') then (min x x', min y y', max (x + w) (x' + w') - min x x', max (y + h) (y' + h') - min y y', true) else (0, 0, 0, 0, false)) := by
  unfold impl_CoverRects.f
  simp only [impl_CoverRects.j0, impl_ValidRect_eq, Option.bind_some, decide_eq_true_eq, mn_eq, mx_eq, if_true]
  by_cases h0 : VR x y w h
  · rw [if_pos h0]
    by_cases h1 : VR x' y' w' h'
    · rw [if_neg (by rw [decide_eq_true h1]; decide), w64 (n := x + w) (by omega) (by omega), w64 (n := x' + w') (by omega) (by omega), w64 (n := y + h) (by omega) (by omega), w64 (n := y' + h') (by omega) (by omega), w64 (n := max (x + w) (x' + w') - min x x') (by omega) (by omega), w64 (n := max (y + h) (y' + h') - min y y') (by omega) (by omega)]
      by_cases h2 : VR (min x x') (min y y') (max (x + w) (x' + w') - min x x') (max (y + h) (y' + h') - min y y')
      · rw [if_pos h2, if_pos ⟨h0, h1, h2⟩]
      · rw [if_neg h2, if_neg (fun q => h2 q.2.2)]
    · rw [if_pos (by rw [decide_eq_false h1]; decide), if_neg (fun q => h1 q.2.1)]
  · rw [if_neg h0, if_neg (fun q => h0 q.1)]

theorem impl_InsideRect_eq (x y w h x' y' w' h' : Int) : impl_InsideRect.f x y w h x' y' w' h' = some (decide (VR x y w h ∧ VR x' y' w' h' ∧ IN x y w h x' y' w' h')) := by
  unfold impl_InsideRect.f impl_Rect_inside.f
  simp only [impl_ValidRect_eq, Option.bind_some, decide_eq_true_eq]
  by_cases hv : VR x y w h
  · by_cases hv' : VR x' y' w' h'
    · rw [if_pos hv, if_pos hv', w64 (n := x + w) (by omega) (by omega), w64 (n := y + h) (by omega) (by omega), w64 (n := x' + w') (by omega) (by omega), w64 (n := y' + h') (by omega) (by omega)]
      repeat' split
      all_goals
        simp only [Option.bind_some]
        refine congrArg some ?_
        first
        | (rw [decide_eq_decide]; omega)
        | (symm; rw [decide_eq_false_iff_not]; omega)
    · rw [if_pos hv, if_neg hv']
      refine congrArg some ?_
      symm
      rw [decide_eq_false_iff_not]
      omega
  · rw [if_neg hv]
    refine congrArg some ?_
    symm
    rw [decide_eq_false_iff_not]
    omega

theorem cut_tells {x y w h s n : Int} (hv : VR x y w h) (hs : 0 ≤ s ∧ s ≤ 3) (hn : 0 ≤ n ∧ n ≤ 400) : ∃ px py pw ph qx qy qw qh : Int, (if s = 0 then (x, y, w, min n h, x, y + min n h, w, h - min n h) else if s = 1 then (x, y + (h - min n h), w, min n h, x, y, w, h - min n h) else if s = 2 then (x, y, min n w, h, x + min n w, y, w - min n w, h) else (x + (w - min n w), y, min n w, h, x, y, w - min n w, h)) = (px, py, pw, ph, qx, qy, qw, qh) ∧ VR px py pw ph ∧ VR qx qy qw qh ∧ IN x y w h px py pw ph ∧ IN x y w h qx qy qw qh ∧ ¬ (1 ≤ min (px + pw) (qx + qw) - max px qx ∧ 1 ≤ min (py + ph) (qy + qh) - max py qy) ∧ min px qx = x ∧ min py qy = y ∧ max (px + pw) (qx + qw) - x = w ∧ max (py + ph) (qy + qh) - y = h ∧ pw * ph + qw * qh = w * h := by
  have e0 : w * min n h + w * (h - min n h) = w * h := by rw [← Int.mul_add]; congr 1; omega
  have e1 : min n w * h + (w - min n w) * h = w * h := by rw [← Int.add_mul]; congr 1; omega
  by_cases s0 : s = 0
  · rw [if_pos s0]
    exact ⟨_, _, _, _, _, _, _, _, rfl, by omega, by omega, by omega, by omega, by omega, by omega, by omega, by omega, by omega, e0⟩
  · rw [if_neg s0]
    by_cases s1 : s = 1
    · rw [if_pos s1]
      exact ⟨_, _, _, _, _, _, _, _, rfl, by omega, by omega, by omega, by omega, by omega, by omega, by omega, by omega, by omega, e0⟩
    · rw [if_neg s1]
      by_cases s2 : s = 2
      · rw [if_pos s2]
        exact ⟨_, _, _, _, _, _, _, _, rfl, by omega, by omega, by omega, by omega, by omega, by omega, by omega, by omega, by omega, e1⟩
      · rw [if_neg s2]
        exact ⟨_, _, _, _, _, _, _, _, rfl, by omega, by omega, by omega, by omega, by omega, by omega, by omega, by omega, by omega, e1⟩

theorem newReader_ok (l : List Int) (hl : Bytes l) : ∃ s, spec_newReader.f l = some (s, 0) ∧ Bytes s ∧ s.length ≤ 2000 := by
  unfold spec_newReader.f
  by_cases h : (l.length : Int) > 2000
  · rw [if_pos h, if_pos (by omega)]
    exact ⟨_, rfl, fun x hx => hl x (List.mem_of_mem_take hx), List.length_take_le _ _⟩
  · rw [if_neg h]
    exact ⟨l, rfl, hl, by omega⟩
theorem pick_ok (k : Nat) {s : List Int} {p : Int} (n : Int) (hs : Bytes s) (hl : s.length ≤ 2000) (p0 : 0 ≤ p) (p1 : p ≤ 1000000) :
    ∃ v, spec_reader_pick.f (k + 1) s p n = some (v, p + 1) ∧ 0 ≤ v ∧ (1 ≤ n → v < n) ∧ (n < 1 → v = 0) := by
  unfold spec_reader_pick.f
  rw [w64 (n := p + 1) (by omega) (by omega)]
  by_cases h1 : n < 1
  · rw [if_pos h1, spec_reader_pick.j0, if_pos rfl]
    exact ⟨0, rfl, by omega, by omega, fun _ => rfl⟩
  · rw [if_neg h1, spec_reader_pick.j0]
    by_cases h2 : (s.length : Int) = 0
    · rw [if_pos (by simp only [h2]; rfl)]
      exact ⟨0, rfl, by omega, by omega, fun _ => rfl⟩
    · rw [if_neg (by rw [beq_iff_eq]; exact h2), w64 (n := p + 1 - 1) (by omega) (by omega), show p + 1 - 1 = p from by omega]
      by_cases h3 : p < (s.length : Int)
      · have hr := rd_byte hs p
        rw [if_pos h3, if_pos p0, if_neg (by omega), w64 (n := rd s p) (by omega) (by omega)]
        have ht := tmod_lt hr.1 (show 1 ≤ n by omega)
        exact ⟨_, rfl, ht.1, fun _ => ht.2, fun h => by omega⟩
      · have hlen : 1 ≤ (s.length : Int) := by omega
        have q1 := tmod_lt p0 hlen
        have q2 := tmod_lt (a := p * 7 + 3) (by omega) hlen
        have qd : 0 ≤ Int.tdiv p (s.length : Int) ∧ Int.tdiv p (s.length : Int) ≤ p := by
          rw [td2 p0]
          exact ⟨Int.ediv_nonneg p0 (by omega), Int.ediv_le_self _ p0⟩
        rw [if_neg h3, if_neg h2, if_pos q1.1, if_pos q1.2, w64 (n := p * 7) (by omega) (by omega), w64 (n := p * 7 + 3) (by omega) (by omega), if_pos q2.1, if_pos q2.2, if_neg (by omega)]
        have ra := rd_byte hs (Int.tmod p (s.length : Int))
        have rb := rd_byte hs (Int.tmod (p * 7 + 3) (s.length : Int))
        generalize rd s (Int.tmod p (s.length : Int)) = a at *
        generalize rd s (Int.tmod (p * 7 + 3) (s.length : Int)) = b at *
        generalize Int.tdiv p (s.length : Int) = d at *
        rw [w64 (n := a) (by omega) (by omega), w64 (n := b) (by omega) (by omega), w64 (n := a * 131) (by omega) (by omega), w64 (n := b * 1117) (by omega) (by omega), w64 (n := a * 131 + b * 1117) (by omega) (by omega), w64 (n := p * 29) (by omega) (by omega), w64 (n := a * 131 + b * 1117 + p * 29) (by omega) (by omega), w64 (n := d) (by omega) (by omega), w64 (n := d * 53) (by omega) (by omega), w64 (n := a * 131 + b * 1117 + p * 29 + d * 53) (by omega) (by omega)]
        have hx : 0 ≤ a * 131 + b * 1117 + p * 29 + d * 53 ∧ a * 131 + b * 1117 + p * 29 + d * 53 ≤ 1000000000 := by omega
        generalize a * 131 + b * 1117 + p * 29 + d * 53 = x at *
        rw [td2 hx.1, w64 (n := x / 64) (by omega) (by omega)]
        have ht := tmod_lt (xor_range (a := x) (b := x / 64) (by omega) (by omega) (by omega) (by omega)) (show 1 ≤ n by omega)
        exact ⟨_, rfl, ht.1, fun _ => ht.2, fun h => by omega⟩

theorem one_ok (k : Nat) {s : List Int} {p : Int} (L : List Int) (hL : 1 ≤ (L.length : Int)) (hs : Bytes s) (hl : s.length ≤ 2000) (p0 : 0 ≤ p) (p1 : p ≤ 1000000) :
    ∃ v, spec_reader_one.f (k + 1) s p L = some (v, p + 1) ∧ v ∈ L := by
  obtain ⟨v, e, v0, v1, _⟩ := pick_ok k (L.length : Int) hs hl p0 p1
  unfold spec_reader_one.f
  rw [e, Option.bind_some]
  simp only
  rw [if_pos v0, if_pos (v1 hL)]
  exact ⟨_, rfl, rd_mem v0 (v1 hL)⟩

theorem pick_bind {β : Type} {P : β → Prop} {k : Nat} {s : List Int} {p n : Int} {f : Int × Int → Option β} (hs : Bytes s) (hl : s.length ≤ 2000) (p0 : 0 ≤ p) (p1 : p ≤ 1000000)
    (h : ∀ v, 0 ≤ v → (1 ≤ n → v < n) → ∃ r, f (v, p + 1) = some r ∧ P r) : ∃ r, (spec_reader_pick.f (k + 1) s p n).bind f = some r ∧ P r := by
  obtain ⟨v, e, v0, v1, _⟩ := pick_ok k n hs hl p0 p1
  rw [e, Option.bind_some]
  exact h v v0 v1

theorem one_bind {β : Type} {P : β → Prop} {k : Nat} {s : List Int} {p : Int} {L : List Int} {f : Int × Int → Option β} (hs : Bytes s) (hl : s.length ≤ 2000) (p0 : 0 ≤ p) (p1 : p ≤ 1000000) (hL : 1 ≤ (L.length : Int))
    (h : ∀ v, v ∈ L → ∃ r, f (v, p + 1) = some r ∧ P r) : ∃ r, (spec_reader_one.f (k + 1) s p L).bind f = some r ∧ P r := by
  obtain ⟨v, e, hv⟩ := one_ok k L hL hs hl p0 p1
  rw [e, Option.bind_some]
  exact h v hv

theorem goodRect_ok (k : Nat) {s : List Int} {p : Int} (hs : Bytes s) (hl : s.length ≤ 2000) (p0 : 0 ≤ p) (p1 : p ≤ 900000) : ∃ r, spec_goodRect.f (k + 1) s p = some r ∧ (0 ≤ r.2.2.2.2 ∧ r.2.2.2.2 ≤ p + 50) := by
  unfold spec_goodRect.f
  repeat' first
    | (refine pick_bind hs hl (by omega) (by omega) (fun _ _ _ => ?_); try dsimp only)
    | (refine one_bind hs hl (by omega) (by omega) (by simp) (fun _ _ => ?_); try dsimp only)
    | split
  all_goals exact ⟨_, rfl, by dsimp only; omega, by dsimp only; omega⟩

theorem someRect_ok (k : Nat) {s : List Int} {p : Int} (hs : Bytes s) (hl : s.length ≤ 2000) (p0 : 0 ≤ p) (p1 : p ≤ 900000) : ∃ r, spec_someRect.f (k + 1) s p = some r ∧ (0 ≤ r.2.2.2.2 ∧ r.2.2.2.2 ≤ p + 100) := by
  unfold spec_someRect.f
  obtain ⟨r, e, _, _⟩ := goodRect_ok k hs hl p0 p1
  rw [e, Option.bind_some]
  repeat' first
    | (refine pick_bind hs hl (by omega) (by omega) (fun _ _ _ => ?_); try dsimp only)
    | (refine one_bind hs hl (by omega) (by omega) (by simp) (fun _ _ => ?_); try dsimp only)
    | split
  all_goals exact ⟨_, rfl, by dsimp only; omega, by dsimp only; omega⟩

theorem draw_ok (k : Nat) {l : List Int} (hb : Bytes l) : ∃ r, spec_DrawCutRect.f (k + 1) l = some r ∧ True := by
  unfold spec_DrawCutRect.f
  obtain ⟨s, e, hs, hl⟩ := newReader_ok l hb
  rw [e, Option.bind_some]
  dsimp only
  obtain ⟨r, e, _, _⟩ := someRect_ok k (p := 0) hs hl (by omega) (by omega)
  rw [e, Option.bind_some]
  try dsimp only
  repeat' first
    | (refine pick_bind hs hl (by omega) (by omega) (fun _ _ _ => ?_); try dsimp only)
    | (refine one_bind hs hl (by omega) (by omega) (by simp) (fun _ _ => ?_); try dsimp only)
    | split
  all_goals exact ⟨_, rfl, trivial⟩

theorem FnCutRect : laws_FnCutRect.Pure := by
  intro l0 _ _ hw
  refine ⟨9, ?_⟩
  unfold laws_FnCutRect.f
  by_cases hb : (l0.length : Int) > 1048576
  · rw [if_pos hb]
  obtain ⟨⟨x, y, w, h, s, n⟩, e, _⟩ := draw_ok 8 (bytes_of hw)
  rw [if_neg hb, e, Option.bind_some]
  clear e
  dsimp only
  rw [impl_CutRect_eq 8, spec_CutRect_eq, Option.bind_some, Option.bind_some]
  by_cases hc : VR x y w h ∧ (0 ≤ s ∧ s ≤ 3) ∧ 0 ≤ n ∧ n ≤ 400
  · obtain ⟨px, py, pw, ph, qx, qy, qw, qh, e, h1, h2, h3, h4, h5, h6, h7, h8, h9, h10⟩ := cut_tells hc.1 hc.2.1 hc.2.2
    have hv : VR x y w h := hc.1
    rw [if_pos hc, e]
    dsimp only
    have a1 := area_range (w := pw) (h := ph) (by omega) (by omega) (by omega) (by omega)
    have a2 := area_range (w := qw) (h := qh) (by omega) (by omega) (by omega) (by omega)
    have a3 := area_range (w := w) (h := h) (by omega) (by omega) (by omega) (by omega)
    have g1 : ¬ (VR px py pw ph ∧ VR qx qy qw qh ∧ 1 ≤ min (px + pw) (qx + qw) - max px qx ∧ 1 ≤ min (py + ph) (qy + qh) - max py qy) := fun q => h5 q.2.2
    have g2 : VR px py pw ph ∧ VR qx qy qw qh ∧ VR (min px qx) (min py qy) (max (px + pw) (qx + qw) - min px qx) (max (py + ph) (qy + qh) - min py qy) := ⟨h1, h2, by rw [h6, h7, h8, h9]; exact hv⟩
    have j : laws_FnCutRect.j0 9 false x y w h px py pw ph qx qy qw qh px py pw ph qx qy qw qh = some true := by
      rw [laws_FnCutRect.j0, if_neg (by decide), impl_MeetRects_eq, impl_CoverRects_eq 7, if_neg g1, if_pos g2, impl_InsideRect_eq, impl_InsideRect_eq, decide_eq_true (show VR x y w h ∧ VR px py pw ph ∧ IN x y w h px py pw ph from ⟨hv, h1, h3⟩), decide_eq_true (show VR x y w h ∧ VR qx qy qw qh ∧ IN x y w h qx qy qw qh from ⟨hv, h2, h4⟩)]
      unfold laws_area.f
      simp only [Option.bind_some]
      rw [w64 (n := pw * ph) (by omega) (by omega), w64 (n := qw * qh) (by omega) (by omega), w64 (n := w * h) (by omega) (by omega), w64 (n := pw * ph + qw * qh) (by omega) (by omega), if_pos h10, h6, h7, h8, h9]
      simp
    have d : decide (n > 400) = false := decide_eq_false (by omega)
    rw [impl_ValidRect_eq, decide_eq_true hv, Option.bind_some, if_pos rfl, if_neg (show ¬ s < 0 by omega), if_neg (show ¬ s > 3 by omega), if_neg (show ¬ n < 0 by omega), d, j]
    simp
  · rw [if_neg hc]
    dsimp only
    have j : ∀ b : Bool, b = true → laws_FnCutRect.j0 9 b x y w h 0 0 0 0 0 0 0 0 0 0 0 0 0 0 0 0 = some true := by
      intro b q
      rw [q, laws_FnCutRect.j0, if_pos rfl]
      rfl
    rw [impl_ValidRect_eq, Option.bind_some]
    by_cases hv : VR x y w h
    · rw [decide_eq_true hv, if_pos rfl]
      by_cases s0 : s < 0
      · rw [if_pos s0, j _ rfl]
        simp
      · rw [if_neg s0]
        by_cases s1 : s > 3
        · rw [if_pos s1, j _ rfl]
          simp
        · rw [if_neg s1]
          by_cases n0 : n < 0
          · rw [if_pos n0, j _ rfl]
            simp
          · have n1 : n > 400 := by omega
            rw [if_neg n0, j _ (decide_eq_true n1)]
            simp
    · rw [decide_eq_false hv, if_neg (by decide), j _ rfl]
      simp

end Go.Proofs.Ytnekecbhjlamoaa.Pure
