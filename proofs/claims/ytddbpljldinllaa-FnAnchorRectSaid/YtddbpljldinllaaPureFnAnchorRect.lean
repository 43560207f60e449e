/- The plain side of FnAnchorRect: the printed function answers true at every input; no condition is added. -/
import Derived.Test.YtddbpljldinllaaQFnAnchorRectx0
import Derived.Test.YtddbpljldinllaaQFnAnchorRectx1
import Derived.Test.YtddbpljldinllaaQFnAnchorRectx2
import Derived.Test.YtddbpljldinllaaQFnAnchorRectx3
import Derived.Test.YtddbpljldinllaaBase
namespace Go.Proofs.Ytddbpljldinllaa.Pure
open Go.RowKit Go.Proofs.Ytddbpljldinllaa.PFnAnchorRect Go.Proofs.YtddbpljldinllaaW.PrintWords Go.Proofs.YtddbpljldinllaaW.PrintLast Go.Proofs.YtddbpljldinllaaW.PrintMore Go.Proofs.Ytddbpljldinllaa.Base
set_option linter.unusedVariables false
set_option linter.unusedSimpArgs false

theorem within_eq (a b c : Int) : impl_within.f a b c = some (decide (b ≤ a ∧ a ≤ c)) := by
  unfold impl_within.f
  by_cases h : b ≤ a
  · rw [if_pos h]; simp [h]
  · rw [if_neg h]; simp [h]

theorem inrange_eq (a b c : Int) : spec_inRange.f a b c = some (decide (b ≤ a ∧ a ≤ c)) := by
  unfold spec_inRange.f
  by_cases h : b ≤ a
  · rw [if_pos h]; simp [h]
  · rw [if_neg h]; simp [h]

theorem impl_ValidRect_eq (x y w h : Int) : impl_ValidRect.f x y w h = some (decide (VR x y w h)) := by
  unfold impl_ValidRect.f
  simp only [within_eq, Option.bind_some, decide_eq_true_eq]
  split
  · split
    · rw [w64 (n := 1000 - w) (by omega) (by omega), w64 (n := 1000 - h) (by omega) (by omega)]
      split
      · refine congrArg some ?_
        rw [decide_eq_decide]
        omega
      · refine congrArg some ?_
        symm
        rw [decide_eq_false_iff_not]
        omega
    · refine congrArg some ?_
      symm
      rw [decide_eq_false_iff_not]
      omega
  · refine congrArg some ?_
    symm
    rw [decide_eq_false_iff_not]
    omega

theorem spec_validRect_eq (x y w h : Int) : spec_validRect.f x y w h = some (decide (VR x y w h)) := by
  unfold spec_validRect.f
  simp only [inrange_eq, Option.bind_some, decide_eq_true_eq]
  split
  · split
    · rw [w64 (n := 1000 - w) (by omega) (by omega), w64 (n := 1000 - h) (by omega) (by omega)]
      split
      · refine congrArg some ?_
        rw [decide_eq_decide]
        omega
      · refine congrArg some ?_
        symm
        rw [decide_eq_false_iff_not]
        omega
    · refine congrArg some ?_
      symm
      rw [decide_eq_false_iff_not]
      omega
  · refine congrArg some ?_
    symm
    rw [decide_eq_false_iff_not]
    omega

theorem impl_AnchorRect_eq (x y w h a b c : Int) : impl_AnchorRect.f x y w h a b c = some (if VR x y w h ∧ (0 ≤ a ∧ a ≤ 400) ∧ (0 ≤ b ∧ b ≤ 400) ∧ 0 ≤ c ∧ c ≤ 8 then (x + (w - min a w) * (c % 3) / 2, y + (h - min b h) * (c / 3) / 2, min a w, min b h) else (0, 0, 0, 0)) := by
  unfold impl_AnchorRect.f impl_Rect_anchored.f impl_part.f
  simp only [impl_ValidRect_eq, within_eq, Option.bind_some, decide_eq_true_eq, mn_eq]
  by_cases h0 : VR x y w h
  · rw [if_pos h0]
    by_cases h1 : 0 ≤ a ∧ a ≤ 400
    · rw [if_pos h1]
      by_cases h2 : 0 ≤ b ∧ b ≤ 400
      · rw [if_pos h2]
        by_cases h3 : 0 ≤ c ∧ c ≤ 8
        · have m1 := part_range (d := w - min a w) (m := c % 3) (by omega) (by omega) (by omega) (by omega)
          have m2 := part_range (d := h - min b h) (m := c / 3) (by omega) (by omega) (by omega) (by omega)
          rw [if_pos h3, if_pos ⟨h0, h1, h2, h3⟩, tm2 h3.1, td2 h3.1, w64 (n := c / 3) (by omega) (by omega), w64 (n := w - min a w) (by omega) (by omega), w64 (n := h - min b h) (by omega) (by omega), w64 (n := (w - min a w) * (c % 3)) (by omega) (by omega), w64 (n := (h - min b h) * (c / 3)) (by omega) (by omega), td2 m1.1, td2 m2.1, w64 (n := (w - min a w) * (c % 3) / 2) (by omega) (by omega), w64 (n := (h - min b h) * (c / 3) / 2) (by omega) (by omega), w64 (by omega) (by omega), w64 (by omega) (by omega)]
        · rw [if_neg h3, if_neg (fun q => h3 q.2.2.2)]
      · rw [if_neg h2, if_neg (fun q => h2 q.2.2.1)]
    · rw [if_neg h1, if_neg (fun q => h1 q.2.1)]
  · rw [if_neg h0, if_neg (fun q => h0 q.1)]

theorem spec_AnchorRect_eq (x y w h a b c : Int) : spec_AnchorRect.f x y w h a b c = some (if VR x y w h ∧ (0 ≤ a ∧ a ≤ 400) ∧ (0 ≤ b ∧ b ≤ 400) ∧ 0 ≤ c ∧ c ≤ 8 then (x + (w - min a w) * (c % 3) / 2, y + (h - min b h) * (c / 3) / 2, min a w, min b h) else (0, 0, 0, 0)) := by
  unfold spec_AnchorRect.f spec_anchored.f spec_validAnchor.f
  simp only [spec_validRect_eq, inrange_eq, Option.bind_some, decide_eq_true_eq, mn_eq]
  by_cases h0 : VR x y w h
  · rw [if_pos h0]
    by_cases h1 : 0 ≤ a ∧ a ≤ 400
    · rw [if_pos h1]
      by_cases h2 : 0 ≤ b ∧ b ≤ 400
      · rw [if_pos h2]
        by_cases h3 : 0 ≤ c ∧ c ≤ 8
        · have m1 := part_range (d := w - min a w) (m := c % 3) (by omega) (by omega) (by omega) (by omega)
          have m2 := part_range (d := h - min b h) (m := c / 3) (by omega) (by omega) (by omega) (by omega)
          rw [if_pos h3, if_pos ⟨h0, h1, h2, h3⟩, tm2 h3.1, td2 h3.1, w64 (n := c / 3) (by omega) (by omega), w64 (n := w - min a w) (by omega) (by omega), w64 (n := h - min b h) (by omega) (by omega), w64 (n := (w - min a w) * (c % 3)) (by omega) (by omega), w64 (n := (h - min b h) * (c / 3)) (by omega) (by omega), td2 m1.1, td2 m2.1, w64 (n := (w - min a w) * (c % 3) / 2) (by omega) (by omega), w64 (n := (h - min b h) * (c / 3) / 2) (by omega) (by omega), w64 (by omega) (by omega), w64 (by omega) (by omega)]
        · rw [if_neg h3, if_neg (fun q => h3 q.2.2.2)]
      · rw [if_neg h2, if_neg (fun q => h2 q.2.2.1)]
    · rw [if_neg h1, if_neg (fun q => h1 q.2.1)]
  · rw [if_neg h0, if_neg (fun q => h0 q.1)]

theorem impl_InsideRect_eq (x y w h x' y' w' h' : Int) : impl_InsideRect.f x y w h x' y' w' h' = some (decide (VR x y w h ∧ VR x' y' w' h' ∧ IN x y w h x' y' w' h')) := by
  unfold impl_InsideRect.f impl_Rect_inside.f
  simp only [impl_ValidRect_eq, Option.bind_some, decide_eq_true_eq]
  by_cases hv : VR x y w h
  · by_cases hv' : VR x' y' w' h'
    · rw [if_pos hv, if_pos hv', w64 (n := x + w) (by omega) (by omega), w64 (n := y + h) (by omega) (by omega), w64 (n := x' + w') (by omega) (by omega), w64 (n := y' + h') (by omega) (by omega)]
      repeat' split
      all_goals
        simp only [Option.bind_some]
        refine congrArg some ?_
        first
        | (rw [decide_eq_decide]; omega)
        | (symm; rw [decide_eq_false_iff_not]; omega)
    · rw [if_pos hv, if_neg hv']
      refine congrArg some ?_
      symm
      rw [decide_eq_false_iff_not]
      omega
  · rw [if_neg hv]
    refine congrArg some ?_
    symm
    rw [decide_eq_false_iff_not]
    omega

theorem newReader_ok (l : List Int) (hl : Bytes l) : ∃ s, spec_newReader.f l = some (s, 0) ∧ Bytes s ∧ s.length ≤ 2000 := by
  unfold spec_newReader.f
  by_cases h : (l.length : Int) > 2000
  · rw [if_pos h, if_pos (by omega)]
    exact ⟨_, rfl, fun x hx => hl x (List.mem_of_mem_take hx), List.length_take_le _ _⟩
  · rw [if_neg h]
    exact ⟨l, rfl, hl, by omega⟩
theorem pick_ok (k : Nat) {s : List Int} {p : Int} (n : Int) (hs : Bytes s) (hl : s.length ≤ 2000) (p0 : 0 ≤ p) (p1 : p ≤ 1000000) :
    ∃ v, spec_reader_pick.f (k + 1) s p n = some (v, p + 1) ∧ 0 ≤ v ∧ (1 ≤ n → v < n) ∧ (n < 1 → v = 0) := by
  unfold spec_reader_pick.f
  rw [w64 (n := p + 1) (by omega) (by omega)]
  by_cases h1 : n < 1
  · rw [if_pos h1, spec_reader_pick.j0, if_pos rfl]
    exact ⟨0, rfl, by omega, by omega, fun _ => rfl⟩
  · rw [if_neg h1, spec_reader_pick.j0]
    by_cases h2 : (s.length : Int) = 0
    · rw [if_pos (by simp only [h2]; rfl)]
      exact ⟨0, rfl, by omega, by omega, fun _ => rfl⟩
    · rw [if_neg (by rw [beq_iff_eq]; exact h2), w64 (n := p + 1 - 1) (by omega) (by omega), show p + 1 - 1 = p from by omega]
      by_cases h3 : p < (s.length : Int)
      · have hr := rd_byte hs p
        rw [if_pos h3, if_pos p0, if_neg (by omega), w64 (n := rd s p) (by omega) (by omega)]
        have ht := tmod_lt hr.1 (show 1 ≤ n by omega)
        exact ⟨_, rfl, ht.1, fun _ => ht.2, fun h => by omega⟩
      · have hlen : 1 ≤ (s.length : Int) := by omega
        have q1 := tmod_lt p0 hlen
        have q2 := tmod_lt (a := p * 7 + 3) (by omega) hlen
        have qd : 0 ≤ Int.tdiv p (s.length : Int) ∧ Int.tdiv p (s.length : Int) ≤ p := by
          rw [td2 p0]
          exact ⟨Int.ediv_nonneg p0 (by omega), Int.ediv_le_self _ p0⟩
        rw [if_neg h3, if_neg h2, if_pos q1.1, if_pos q1.2, w64 (n := p * 7) (by omega) (by omega), w64 (n := p * 7 + 3) (by omega) (by omega), if_pos q2.1, if_pos q2.2, if_neg (by omega)]
        have ra := rd_byte hs (Int.tmod p (s.length : Int))
        have rb := rd_byte hs (Int.tmod (p * 7 + 3) (s.length : Int))
        generalize rd s (Int.tmod p (s.length : Int)) = a at *
        generalize rd s (Int.tmod (p * 7 + 3) (s.length : Int)) = b at *
        generalize Int.tdiv p (s.length : Int) = d at *
        rw [w64 (n := a) (by omega) (by omega), w64 (n := b) (by omega) (by omega), w64 (n := a * 131) (by omega) (by omega), w64 (n := b * 1117) (by omega) (by omega), w64 (n := a * 131 + b * 1117) (by omega) (by omega), w64 (n := p * 29) (by omega) (by omega), w64 (n := a * 131 + b * 1117 + p * 29) (by omega) (by omega), w64 (n := d) (by omega) (by omega), w64 (n := d * 53) (by omega) (by omega), w64 (n := a * 131 + b * 1117 + p * 29 + d * 53) (by omega) (by omega)]
        have hx : 0 ≤ a * 131 + b * 1117 + p * 29 + d * 53 ∧ a * 131 + b * 1117 + p * 29 + d * 53 ≤ 1000000000 := by omega
        generalize a * 131 + b * 1117 + p * 29 + d * 53 = x at *
        rw [td2 hx.1, w64 (n := x / 64) (by omega) (by omega)]
        have ht := tmod_lt (xor_range (a := x) (b := x / 64) (by omega) (by omega) (by omega) (by omega)) (show 1 ≤ n by omega)
        exact ⟨_, rfl, ht.1, fun _ => ht.2, fun h => by omega⟩

theorem one_ok (k : Nat) {s : List Int} {p : Int} (L : List Int) (hL : 1 ≤ (L.length : Int)) (hs : Bytes s) (hl : s.length ≤ 2000) (p0 : 0 ≤ p) (p1 : p ≤ 1000000) :
    ∃ v, spec_reader_one.f (k + 1) s p L = some (v, p + 1) ∧ v ∈ L := by
  obtain ⟨v, e, v0, v1, _⟩ := pick_ok k (L.length : Int) hs hl p0 p1
  unfold spec_reader_one.f
  rw [e, Option.bind_some]
  simp only
  rw [if_pos v0, if_pos (v1 hL)]
  exact ⟨_, rfl, rd_mem v0 (v1 hL)⟩

theorem pick_bind {β : Type} {P : β → Prop} {k : Nat} {s : List Int} {p n : Int} {f : Int × Int → Option β} (hs : Bytes s) (hl : s.length ≤ 2000) (p0 : 0 ≤ p) (p1 : p ≤ 1000000)
    (h : ∀ v, 0 ≤ v → (1 ≤ n → v < n) → ∃ r, f (v, p + 1) = some r ∧ P r) : ∃ r, (spec_reader_pick.f (k + 1) s p n).bind f = some r ∧ P r := by
  obtain ⟨v, e, v0, v1, _⟩ := pick_ok k n hs hl p0 p1
  rw [e, Option.bind_some]
  exact h v v0 v1

theorem one_bind {β : Type} {P : β → Prop} {k : Nat} {s : List Int} {p : Int} {L : List Int} {f : Int × Int → Option β} (hs : Bytes s) (hl : s.length ≤ 2000) (p0 : 0 ≤ p) (p1 : p ≤ 1000000) (hL : 1 ≤ (L.length : Int))
    (h : ∀ v, v ∈ L → ∃ r, f (v, p + 1) = some r ∧ P r) : ∃ r, (spec_reader_one.f (k + 1) s p L).bind f = some r ∧ P r := by
  obtain ⟨v, e, hv⟩ := one_ok k L hL hs hl p0 p1
  rw [e, Option.bind_some]
  exact h v hv

theorem goodRect_ok (k : Nat) {s : List Int} {p : Int} (hs : Bytes s) (hl : s.length ≤ 2000) (p0 : 0 ≤ p) (p1 : p ≤ 900000) : ∃ r, spec_goodRect.f (k + 1) s p = some r ∧ (0 ≤ r.2.2.2.2 ∧ r.2.2.2.2 ≤ p + 50) := by
  unfold spec_goodRect.f
  repeat' first
    | (refine pick_bind hs hl (by omega) (by omega) (fun _ _ _ => ?_); try dsimp only)
    | (refine one_bind hs hl (by omega) (by omega) (by simp) (fun _ _ => ?_); try dsimp only)
    | split
  all_goals exact ⟨_, rfl, by dsimp only; omega, by dsimp only; omega⟩

theorem someRect_ok (k : Nat) {s : List Int} {p : Int} (hs : Bytes s) (hl : s.length ≤ 2000) (p0 : 0 ≤ p) (p1 : p ≤ 900000) : ∃ r, spec_someRect.f (k + 1) s p = some r ∧ (0 ≤ r.2.2.2.2 ∧ r.2.2.2.2 ≤ p + 100) := by
  unfold spec_someRect.f
  obtain ⟨r, e, _, _⟩ := goodRect_ok k hs hl p0 p1
  rw [e, Option.bind_some]
  repeat' first
    | (refine pick_bind hs hl (by omega) (by omega) (fun _ _ _ => ?_); try dsimp only)
    | (refine one_bind hs hl (by omega) (by omega) (by simp) (fun _ _ => ?_); try dsimp only)
    | split
  all_goals exact ⟨_, rfl, by dsimp only; omega, by dsimp only; omega⟩

theorem draw_ok (k : Nat) {l : List Int} (hb : Bytes l) : ∃ r, spec_DrawAnchorRect.f (k + 1) l = some r ∧ True := by
  unfold spec_DrawAnchorRect.f
  obtain ⟨s, e, hs, hl⟩ := newReader_ok l hb
  rw [e, Option.bind_some]
  dsimp only
  obtain ⟨r, e, _, _⟩ := someRect_ok k (p := 0) hs hl (by omega) (by omega)
  rw [e, Option.bind_some]
  try dsimp only
  repeat' first
    | (refine pick_bind hs hl (by omega) (by omega) (fun _ _ _ => ?_); try dsimp only)
    | (refine one_bind hs hl (by omega) (by omega) (by simp) (fun _ _ => ?_); try dsimp only)
    | split
  all_goals exact ⟨_, rfl, trivial⟩

theorem FnAnchorRect : laws_FnAnchorRect.Pure := by
  intro l0 _ _ hw
  refine ⟨9, ?_⟩
  unfold laws_FnAnchorRect.f
  by_cases hb : (l0.length : Int) > 1048576
  · rw [if_pos hb]
  obtain ⟨⟨x, y, w, h, a, b, n⟩, e, _⟩ := draw_ok 8 (bytes_of hw)
  rw [if_neg hb, e, Option.bind_some]
  clear e
  dsimp only
  simp only [impl_AnchorRect_eq, spec_AnchorRect_eq, impl_InsideRect_eq, laws_FnAnchorRect.j0, laws_equalRect.f, Option.bind_some, beq_self_eq_true, Bool.and_self, if_true, impl_ValidRect_eq, decide_eq_true_eq, Bool.not_eq_true', decide_eq_false_iff_not, bne_self_false, -Int.reduceLE, -Int.reduceMod, -Int.reduceDiv]
  by_cases hc : VR x y w h ∧ (0 ≤ a ∧ a ≤ 400) ∧ (0 ≤ b ∧ b ≤ 400) ∧ 0 ≤ n ∧ n ≤ 8
  · have hv := hc.1
    have z0 : VR x y w h ∧ (0 ≤ a ∧ a ≤ 400) ∧ (0 ≤ b ∧ b ≤ 400) ∧ (0 : Int) ≤ 0 ∧ (0 : Int) ≤ 8 := by omega
    have z8 : VR x y w h ∧ (0 ≤ a ∧ a ≤ 400) ∧ (0 ≤ b ∧ b ≤ 400) ∧ (0 : Int) ≤ 8 ∧ (8 : Int) ≤ 8 := by omega
    have m3 : n % 3 = 0 ∨ n % 3 = 1 ∨ n % 3 = 2 := by omega
    have k3 : n / 3 = 0 ∨ n / 3 = 1 ∨ n / 3 = 2 := by omega
    have g : VR x y w h ∧ VR (x + (w - min a w) * (n % 3) / 2) (y + (h - min b h) * (n / 3) / 2) (min a w) (min b h) ∧ IN x y w h (x + (w - min a w) * (n % 3) / 2) (y + (h - min b h) * (n / 3) / 2) (min a w) (min b h) := by
      rcases m3 with e | e | e <;> rcases k3 with e' | e' | e' <;> rw [e, e'] <;> omega
    rw [if_pos hv, if_neg (show ¬ a < 0 by omega), if_neg (show ¬ a > 400 by omega), if_neg (show ¬ b < 0 by omega), if_neg (show ¬ b > 400 by omega), if_neg (show ¬ n < 0 by omega), if_neg (show ¬ n > 8 by omega)]
    simp only [if_pos hc, if_pos z0, if_pos z8, if_pos g, mn_eq]
    rw [show (0 : Int) % 3 = 0 from rfl, show (0 : Int) / 3 = 0 from rfl, show (8 : Int) % 3 = 2 from rfl, show (8 : Int) / 3 = 2 from rfl]
    rw [show x + (w - min a w) * 0 / 2 = x from by omega, show y + (h - min b h) * 0 / 2 = y from by omega, show x + (w - min a w) * 2 / 2 = x + (w - min a w) from by omega, show y + (h - min b h) * 2 / 2 = y + (h - min b h) from by omega]
    rw [show x + (w - min a w) + min a w = x + w from by omega, show y + (h - min b h) + min b h = y + h from by omega]
    simp
  · simp only [if_neg hc]
    by_cases hv : VR x y w h
    · rw [if_pos hv]
      by_cases s0 : a < 0
      · rw [if_pos s0]
      rw [if_neg s0]
      by_cases s1 : a > 400
      · rw [if_pos s1]
      rw [if_neg s1]
      by_cases s2 : b < 0
      · rw [if_pos s2]
      rw [if_neg s2]
      by_cases s3 : b > 400
      · rw [if_pos s3]
      rw [if_neg s3]
      by_cases s4 : n < 0
      · rw [if_pos s4]
      rw [if_neg s4]
      by_cases s5 : n > 8
      · rw [if_pos s5]
      rw [if_neg s5]
      exfalso
      omega
    · rw [if_neg hv]

end Go.Proofs.Ytddbpljldinllaa.Pure
