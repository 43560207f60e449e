/- The plain side of FnSeeLine: the printed function answers true at every input; no condition is added. -/
import Derived.Test.YtddbpljldinllaaQFnSeeLinex0
import Derived.Test.YtddbpljldinllaaQFnSeeLinex1
import Derived.Test.YtddbpljldinllaaQFnSeeLinex2
import Derived.Test.YtddbpljldinllaaQFnSeeLinex3
import Derived.Test.YtddbpljldinllaaQFnSeeLinex4
import Derived.Test.YtddbpljldinllaaQFnSeeLinex5
import Derived.Test.YtddbpljldinllaaBase
namespace Go.Proofs.Ytddbpljldinllaa.Pure
open Go.RowKit Go.Proofs.Ytddbpljldinllaa.PFnSeeLine Go.Proofs.YtddbpljldinllaaW.PrintWords Go.Proofs.YtddbpljldinllaaW.PrintLast Go.Proofs.YtddbpljldinllaaW.PrintMore Go.Proofs.Ytddbpljldinllaa.Base
set_option linter.unusedVariables false
set_option linter.unusedSimpArgs false

theorem within_eq (a b c : Int) : impl_within.f a b c = some (decide (b ≤ a ∧ a ≤ c)) := by
  unfold impl_within.f
  by_cases h : b ≤ a
  · rw [if_pos h]; simp [h]
  · rw [if_neg h]; simp [h]

theorem inrange_eq (a b c : Int) : spec_inRange.f a b c = some (decide (b ≤ a ∧ a ≤ c)) := by
  unfold spec_inRange.f
  by_cases h : b ≤ a
  · rw [if_pos h]; simp [h]
  · rw [if_neg h]; simp [h]

theorem impl_ValidView_eq (t p f : Int) : impl_ValidView.f t p f = some (decide (VV t p f)) := by
  unfold impl_ValidView.f impl_View_most.f
  simp only [within_eq, Option.bind_some, decide_eq_true_eq]
  split
  · split
    · rw [w64 (n := t - p) (by omega) (by omega), mx_eq]
      refine congrArg some ?_
      rw [decide_eq_decide]
      omega
    · refine congrArg some ?_
      symm
      rw [decide_eq_false_iff_not]
      omega
  · refine congrArg some ?_
    symm
    rw [decide_eq_false_iff_not]
    omega

theorem spec_validView_eq (t p f : Int) : spec_validView.f t p f = some (decide (VV t p f)) := by
  unfold spec_validView.f
  simp only [inrange_eq, Option.bind_some, decide_eq_true_eq]
  split
  · split
    · rw [w64 (n := t - p) (by omega) (by omega), mx_eq]
      refine congrArg some ?_
      rw [decide_eq_decide]
      omega
    · refine congrArg some ?_
      symm
      rw [decide_eq_false_iff_not]
      omega
  · refine congrArg some ?_
    symm
    rw [decide_eq_false_iff_not]
    omega

theorem impl_SeeLine_eq (t p f n : Int) : impl_SeeLine.f t p f n = some (if VV t p f ∧ 0 ≤ n ∧ n ≤ t - 1 then (t, p, clampV t p (min (max f (n - p + 1)) n)) else (0, 0, 0)) := by
  unfold impl_SeeLine.f impl_View_at.f impl_View_most.f
  simp only [impl_ValidView_eq, within_eq, Option.bind_some, decide_eq_true_eq]
  by_cases h : VV t p f
  · rw [if_pos h, w64 (n := t - 1) (by omega) (by omega)]
    by_cases h0 : 0 ≤ n ∧ n ≤ t - 1
    · rw [if_pos h0, if_pos ⟨h, h0⟩, w64 (n := n - p) (by omega) (by omega), w64 (n := n - p + 1) (by omega) (by omega), w64 (n := t - p) (by omega) (by omega)]
      simp only [mn_eq, mx_eq, clampV_eq]
    · rw [if_neg h0, if_neg (fun q => h0 q.2)]
  · rw [if_neg h, if_neg (fun q => h q.1)]

theorem spec_SeeLine_eq (k : Nat) (t p f n : Int) : spec_SeeLine.f (k + 1) t p f n = some (if VV t p f ∧ 0 ≤ n ∧ n ≤ t - 1 then (t, p, clampV t p (min (max f (n - p + 1)) n)) else (0, 0, 0)) := by
  unfold spec_SeeLine.f
  simp only [spec_SeeLine.j0, spec_clamped.f, spec_validView_eq, inrange_eq, Option.bind_some, decide_eq_true_eq, if_true]
  by_cases h : VV t p f
  · rw [if_pos h, w64 (n := t - 1) (by omega) (by omega)]
    by_cases h0 : 0 ≤ n ∧ n ≤ t - 1
    · have hq : VV t p f ∧ 0 ≤ n ∧ n ≤ t - 1 := ⟨h, h0⟩
      rw [if_neg (by rw [decide_eq_true h0]; decide), if_pos hq, w64 (n := n - p) (by omega) (by omega), w64 (n := n - p + 1) (by omega) (by omega), w64 (n := t - p) (by omega) (by omega), w64 (n := f + p) (by omega) (by omega)]
      simp only [mn_eq, mx_eq]
      unfold clampV
      split
      · rw [show min (max f (n - p + 1)) n = n from by omega]
      · split
        · rw [show min (max f (n - p + 1)) n = n - p + 1 from by omega]
        · rw [show max 0 (min (min (max f (n - p + 1)) n) (t - p)) = f from by omega]
    · rw [if_pos (by rw [decide_eq_false h0]; decide), if_neg (fun q => h0 q.2)]
  · rw [if_neg h, if_neg (fun q => h q.1)]

theorem newReader_ok (l : List Int) (hl : Bytes l) : ∃ s, spec_newReader.f l = some (s, 0) ∧ Bytes s ∧ s.length ≤ 2000 := by
  unfold spec_newReader.f
  by_cases h : (l.length : Int) > 2000
  · rw [if_pos h, if_pos (by omega)]
    exact ⟨_, rfl, fun x hx => hl x (List.mem_of_mem_take hx), List.length_take_le _ _⟩
  · rw [if_neg h]
    exact ⟨l, rfl, hl, by omega⟩
theorem pick_ok (k : Nat) {s : List Int} {p : Int} (n : Int) (hs : Bytes s) (hl : s.length ≤ 2000) (p0 : 0 ≤ p) (p1 : p ≤ 1000000) :
    ∃ v, spec_reader_pick.f (k + 1) s p n = some (v, p + 1) ∧ 0 ≤ v ∧ (1 ≤ n → v < n) ∧ (n < 1 → v = 0) := by
  unfold spec_reader_pick.f
  rw [w64 (n := p + 1) (by omega) (by omega)]
  by_cases h1 : n < 1
  · rw [if_pos h1, spec_reader_pick.j0, if_pos rfl]
    exact ⟨0, rfl, by omega, by omega, fun _ => rfl⟩
  · rw [if_neg h1, spec_reader_pick.j0]
    by_cases h2 : (s.length : Int) = 0
    · rw [if_pos (by simp only [h2]; rfl)]
      exact ⟨0, rfl, by omega, by omega, fun _ => rfl⟩
    · rw [if_neg (by rw [beq_iff_eq]; exact h2), w64 (n := p + 1 - 1) (by omega) (by omega), show p + 1 - 1 = p from by omega]
      by_cases h3 : p < (s.length : Int)
      · have hr := rd_byte hs p
        rw [if_pos h3, if_pos p0, if_neg (by omega), w64 (n := rd s p) (by omega) (by omega)]
        have ht := tmod_lt hr.1 (show 1 ≤ n by omega)
        exact ⟨_, rfl, ht.1, fun _ => ht.2, fun h => by omega⟩
      · have hlen : 1 ≤ (s.length : Int) := by omega
        have q1 := tmod_lt p0 hlen
        have q2 := tmod_lt (a := p * 7 + 3) (by omega) hlen
        have qd : 0 ≤ Int.tdiv p (s.length : Int) ∧ Int.tdiv p (s.length : Int) ≤ p := by
          rw [td2 p0]
          exact ⟨Int.ediv_nonneg p0 (by omega), Int.ediv_le_self _ p0⟩
        rw [if_neg h3, if_neg h2, if_pos q1.1, if_pos q1.2, w64 (n := p * 7) (by omega) (by omega), w64 (n := p * 7 + 3) (by omega) (by omega), if_pos q2.1, if_pos q2.2, if_neg (by omega)]
        have ra := rd_byte hs (Int.tmod p (s.length : Int))
        have rb := rd_byte hs (Int.tmod (p * 7 + 3) (s.length : Int))
        generalize rd s (Int.tmod p (s.length : Int)) = a at *
        generalize rd s (Int.tmod (p * 7 + 3) (s.length : Int)) = b at *
        generalize Int.tdiv p (s.length : Int) = d at *
        rw [w64 (n := a) (by omega) (by omega), w64 (n := b) (by omega) (by omega), w64 (n := a * 131) (by omega) (by omega), w64 (n := b * 1117) (by omega) (by omega), w64 (n := a * 131 + b * 1117) (by omega) (by omega), w64 (n := p * 29) (by omega) (by omega), w64 (n := a * 131 + b * 1117 + p * 29) (by omega) (by omega), w64 (n := d) (by omega) (by omega), w64 (n := d * 53) (by omega) (by omega), w64 (n := a * 131 + b * 1117 + p * 29 + d * 53) (by omega) (by omega)]
        have hx : 0 ≤ a * 131 + b * 1117 + p * 29 + d * 53 ∧ a * 131 + b * 1117 + p * 29 + d * 53 ≤ 1000000000 := by omega
        generalize a * 131 + b * 1117 + p * 29 + d * 53 = x at *
        rw [td2 hx.1, w64 (n := x / 64) (by omega) (by omega)]
        have ht := tmod_lt (xor_range (a := x) (b := x / 64) (by omega) (by omega) (by omega) (by omega)) (show 1 ≤ n by omega)
        exact ⟨_, rfl, ht.1, fun _ => ht.2, fun h => by omega⟩

theorem one_ok (k : Nat) {s : List Int} {p : Int} (L : List Int) (hL : 1 ≤ (L.length : Int)) (hs : Bytes s) (hl : s.length ≤ 2000) (p0 : 0 ≤ p) (p1 : p ≤ 1000000) :
    ∃ v, spec_reader_one.f (k + 1) s p L = some (v, p + 1) ∧ v ∈ L := by
  obtain ⟨v, e, v0, v1, _⟩ := pick_ok k (L.length : Int) hs hl p0 p1
  unfold spec_reader_one.f
  rw [e, Option.bind_some]
  simp only
  rw [if_pos v0, if_pos (v1 hL)]
  exact ⟨_, rfl, rd_mem v0 (v1 hL)⟩

theorem pick_bind {β : Type} {P : β → Prop} {k : Nat} {s : List Int} {p n : Int} {f : Int × Int → Option β} (hs : Bytes s) (hl : s.length ≤ 2000) (p0 : 0 ≤ p) (p1 : p ≤ 1000000)
    (h : ∀ v, 0 ≤ v → (1 ≤ n → v < n) → ∃ r, f (v, p + 1) = some r ∧ P r) : ∃ r, (spec_reader_pick.f (k + 1) s p n).bind f = some r ∧ P r := by
  obtain ⟨v, e, v0, v1, _⟩ := pick_ok k n hs hl p0 p1
  rw [e, Option.bind_some]
  exact h v v0 v1

theorem one_bind {β : Type} {P : β → Prop} {k : Nat} {s : List Int} {p : Int} {L : List Int} {f : Int × Int → Option β} (hs : Bytes s) (hl : s.length ≤ 2000) (p0 : 0 ≤ p) (p1 : p ≤ 1000000) (hL : 1 ≤ (L.length : Int))
    (h : ∀ v, v ∈ L → ∃ r, f (v, p + 1) = some r ∧ P r) : ∃ r, (spec_reader_one.f (k + 1) s p L).bind f = some r ∧ P r := by
  obtain ⟨v, e, hv⟩ := one_ok k L hL hs hl p0 p1
  rw [e, Option.bind_some]
  exact h v hv

theorem someView_ok (k : Nat) {s : List Int} {p : Int} (hs : Bytes s) (hl : s.length ≤ 2000) (p0 : 0 ≤ p) (p1 : p ≤ 900000) : ∃ r, spec_someView.f (k + 1) s p = some r ∧ (0 ≤ r.2.2.2 ∧ r.2.2.2 ≤ p + 100) := by
  unfold spec_someView.f
  repeat' first
    | (refine pick_bind hs hl (by omega) (by omega) (fun _ _ _ => ?_); try dsimp only)
    | (refine one_bind hs hl (by omega) (by omega) (by simp) (fun _ _ => ?_); try dsimp only)
    | split
  all_goals exact ⟨_, rfl, by dsimp only; omega, by dsimp only; omega⟩

theorem draw_ok (k : Nat) {l : List Int} (hb : Bytes l) : ∃ r, spec_DrawSeeLine.f (k + 1) l = some r ∧ True := by
  unfold spec_DrawSeeLine.f
  obtain ⟨s, e, hs, hl⟩ := newReader_ok l hb
  rw [e, Option.bind_some]
  dsimp only
  obtain ⟨r, e, _, _⟩ := someView_ok k (p := 0) hs hl (by omega) (by omega)
  rw [e, Option.bind_some]
  try dsimp only
  repeat' first
    | (refine pick_bind hs hl (by omega) (by omega) (fun _ _ _ => ?_); try dsimp only)
    | (refine one_bind hs hl (by omega) (by omega) (by simp) (fun _ _ => ?_); try dsimp only)
    | split
  all_goals exact ⟨_, rfl, trivial⟩

theorem FnSeeLine : laws_FnSeeLine.Pure := by
  intro l0 _ _ hw
  refine ⟨9, ?_⟩
  unfold laws_FnSeeLine.f
  by_cases hb : (l0.length : Int) > 1048576
  · rw [if_pos hb]
  obtain ⟨⟨t, p, f, n⟩, e, _⟩ := draw_ok 8 (bytes_of hw)
  rw [if_neg hb, e, Option.bind_some]
  clear e
  dsimp only
  simp only [impl_SeeLine_eq, spec_SeeLine_eq 8, spec_SeeLine_eq 7, laws_FnSeeLine.j0, laws_FnSeeLine.j1, Option.bind_some, laws_equalView.f, beq_self_eq_true, Bool.and_self, if_true, impl_ValidView_eq, decide_eq_true_eq, Bool.not_eq_true', decide_eq_false_iff_not]
  by_cases hc : VV t p f ∧ 0 ≤ n ∧ n ≤ t - 1
  · have h := hc.1
    simp only [if_pos hc, if_pos h, beq_self_eq_true, Bool.and_self, if_true]
    rw [w64 (n := f + p) (by omega) (by omega)]
    obtain ⟨g, hg⟩ : ∃ g, clampV t p (min (max f (n - p + 1)) n) = g := ⟨_, rfl⟩
    have hg' : 0 ≤ g ∧ g ≤ 500 ∧ VV t p g ∧ (n < f ∧ g = n ∨ f ≤ n ∧ n < f + p ∧ g = f ∨ f + p ≤ n ∧ g = n - p + 1) := by rw [← hg]; unfold clampV; omega
    rw [hg, w64 (n := g + p) (by omega) (by omega), w64 (n := g + p - 1) (by omega) (by omega)]
    clear hg
    repeat' split
    all_goals first
      | rfl
      | (exfalso; omega)
      | (refine congrArg some ?_; simp only [beq_iff_eq, Bool.and_eq_true, decide_eq_true_eq, true_and]; omega)
  · simp only [if_neg hc]
    repeat' split
    all_goals first
      | rfl
      | (exfalso; omega)

end Go.Proofs.Ytddbpljldinllaa.Pure
