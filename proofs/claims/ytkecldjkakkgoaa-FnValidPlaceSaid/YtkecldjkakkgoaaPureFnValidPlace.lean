/- The plain side of FnValidPlace: the printed function answers true at every input; no condition is added. -/
import Derived.Test.YtkecldjkakkgoaaPFnValidPlacex0
import Derived.Test.YtkecldjkakkgoaaPFnValidPlacex1
import Derived.Test.YtkecldjkakkgoaaPFnValidPlacex2
import Derived.Test.YtkecldjkakkgoaaPFnValidPlacex3
import Derived.Test.YtkecldjkakkgoaaBase
namespace Go.Proofs.Ytkecldjkakkgoaa.Pure
open Go.RowKit Go.Proofs.Ytkecldjkakkgoaa.PFnValidPlace Go.Proofs.YtkecldjkakkgoaaW.PrintWords Go.Proofs.YtkecldjkakkgoaaW.PrintLast Go.Proofs.YtkecldjkakkgoaaW.PrintMore Go.Proofs.Ytkecldjkakkgoaa.Base
set_option linter.unusedVariables false
set_option linter.unusedSimpArgs false

theorem within_eq (a b c : Int) : impl_within.f a b c = some (decide (b ≤ a ∧ a ≤ c)) := by
  unfold impl_within.f
  by_cases h : b ≤ a
  · rw [if_pos h]; simp [h]
  · rw [if_neg h]; simp [h]

theorem inrange_eq (a b c : Int) : spec_inRange.f a b c = some (decide (b ≤ a ∧ a ≤ c)) := by
  unfold spec_inRange.f
  by_cases h : b ≤ a
  · rw [if_pos h]; simp [h]
  · rw [if_neg h]; simp [h]

theorem impl_ValidPlace_l0 (k : Nat) (L : List Int) (n i : Int) (x y rx ry w h rw_ rh a : Int) : impl_ValidPlace.l0 (k + 1) L n i x y rx ry w h rw_ rh a = if i < n then (if 0 ≤ i then (if i < (L.length : Int) then (if -300 ≤ rd L i ∧ rd L i ≤ 300 then impl_ValidPlace.l0 k L n (wrap64 (i + 1)) x y rx ry w h rw_ rh a else some false) else none) else none) else impl_ValidPlace.l1 k [rx, ry, rw_, rh] 4 0 x y rx ry w h rw_ rh a := by
  rw [impl_ValidPlace.l0]
  simp only [within_eq, Option.bind_some, decide_eq_true_eq]
  rfl
theorem impl_ValidPlace_l1 (k : Nat) (L : List Int) (n i : Int) (x y rx ry w h rw_ rh a : Int) : impl_ValidPlace.l1 (k + 1) L n i x y rx ry w h rw_ rh a = if i < n then (if 0 ≤ i then (if i < (L.length : Int) then (if 0 ≤ rd L i ∧ rd L i ≤ 1000 then impl_ValidPlace.l1 k L n (wrap64 (i + 1)) x y rx ry w h rw_ rh a else some false) else none) else none) else some (decide (0 ≤ a ∧ a ≤ 8)) := by
  rw [impl_ValidPlace.l1]
  simp only [within_eq, Option.bind_some, decide_eq_true_eq]
theorem impl_ValidPlace_eq (k : Nat) (x y rx ry w h rw_ rh a : Int) : impl_ValidPlace.f (k + 10) x y rx ry w h rw_ rh a = some (decide (VP x y rx ry w h rw_ rh a)) := by
  unfold impl_ValidPlace.f
  rw [Option.bind_some]
  have d1 : wrap64 1 = 1 := by unfold wrap64; omega
  have d2 : wrap64 2 = 2 := by unfold wrap64; omega
  have d3 : wrap64 3 = 3 := by unfold wrap64; omega
  have d4 : wrap64 4 = 4 := by unfold wrap64; omega
  have a0 : rd [x, y, w, h] 0 = x := rfl
  have a1 : rd [x, y, w, h] 1 = y := rfl
  have a2 : rd [x, y, w, h] 2 = w := rfl
  have a3 : rd [x, y, w, h] 3 = h := rfl
  have b0 : rd [rx, ry, rw_, rh] 0 = rx := rfl
  have b1 : rd [rx, ry, rw_, rh] 1 = ry := rfl
  have b2 : rd [rx, ry, rw_, rh] 2 = rw_ := rfl
  have b3 : rd [rx, ry, rw_, rh] 3 = rh := rfl
  have s0 : (([x, y, w, h] : List Int).length : Int) = 4 := rfl
  have s1 : (([rx, ry, rw_, rh] : List Int).length : Int) = 4 := rfl
  simp only [impl_ValidPlace_l0, impl_ValidPlace_l1, s0, s1, d1, d2, d3, d4, a0, a1, a2, a3, b0, b1, b2, b3, Int.reduceLT, Int.reduceLE, Int.reduceAdd, ↓reduceIte]
  repeat' split
  all_goals
    refine congrArg some ?_
    first
    | (rw [decide_eq_decide]; omega)
    | (symm; rw [decide_eq_false_iff_not]; omega)

theorem spec_validPlace_eq (x y rx ry w h rw_ rh a : Int) : spec_validPlace.f x y rx ry w h rw_ rh a = some (decide (VP x y rx ry w h rw_ rh a)) := by
  unfold spec_validPlace.f spec_validAnchor.f
  simp only [inrange_eq, Option.bind_some, decide_eq_true_eq]
  repeat' split
  all_goals
    refine congrArg some ?_
    first
    | (rw [decide_eq_decide]; omega)
    | (symm; rw [decide_eq_false_iff_not]; omega)

theorem spec_ValidPlace_eq (x y rx ry w h rw_ rh a : Int) : spec_ValidPlace.f x y rx ry w h rw_ rh a = some (decide (VP x y rx ry w h rw_ rh a)) := by
  unfold spec_ValidPlace.f
  rw [spec_validPlace_eq, Option.bind_some]

theorem newReader_ok (l : List Int) (hl : Bytes l) : ∃ s, spec_newReader.f l = some (s, 0) ∧ Bytes s ∧ s.length ≤ 2000 := by
  unfold spec_newReader.f
  by_cases h : (l.length : Int) > 2000
  · rw [if_pos h, if_pos (by omega)]
    exact ⟨_, rfl, fun x hx => hl x (List.mem_of_mem_take hx), List.length_take_le _ _⟩
  · rw [if_neg h]
    exact ⟨l, rfl, hl, by omega⟩
theorem pick_ok (k : Nat) {s : List Int} {p : Int} (n : Int) (hs : Bytes s) (hl : s.length ≤ 2000) (p0 : 0 ≤ p) (p1 : p ≤ 1000000) :
    ∃ v, spec_reader_pick.f (k + 1) s p n = some (v, p + 1) ∧ 0 ≤ v ∧ (1 ≤ n → v < n) ∧ (n < 1 → v = 0) := by
  unfold spec_reader_pick.f
  rw [w64 (n := p + 1) (by omega) (by omega)]
  by_cases h1 : n < 1
  · rw [if_pos h1, spec_reader_pick.j0, if_pos rfl]
    exact ⟨0, rfl, by omega, by omega, fun _ => rfl⟩
  · rw [if_neg h1, spec_reader_pick.j0]
    by_cases h2 : (s.length : Int) = 0
    · rw [if_pos (by simp only [h2]; rfl)]
      exact ⟨0, rfl, by omega, by omega, fun _ => rfl⟩
    · rw [if_neg (by rw [beq_iff_eq]; exact h2), w64 (n := p + 1 - 1) (by omega) (by omega), show p + 1 - 1 = p from by omega]
      by_cases h3 : p < (s.length : Int)
      · have hr := rd_byte hs p
        rw [if_pos h3, if_pos p0, if_neg (by omega), w64 (n := rd s p) (by omega) (by omega)]
        have ht := tmod_lt hr.1 (show 1 ≤ n by omega)
        exact ⟨_, rfl, ht.1, fun _ => ht.2, fun h => by omega⟩
      · have hlen : 1 ≤ (s.length : Int) := by omega
        have q1 := tmod_lt p0 hlen
        have q2 := tmod_lt (a := p * 7 + 3) (by omega) hlen
        have qd : 0 ≤ Int.tdiv p (s.length : Int) ∧ Int.tdiv p (s.length : Int) ≤ p := by
          rw [td2 p0]
          exact ⟨Int.ediv_nonneg p0 (by omega), Int.ediv_le_self _ p0⟩
        rw [if_neg h3, if_neg h2, if_pos q1.1, if_pos q1.2, w64 (n := p * 7) (by omega) (by omega), w64 (n := p * 7 + 3) (by omega) (by omega), if_pos q2.1, if_pos q2.2, if_neg (by omega)]
        have ra := rd_byte hs (Int.tmod p (s.length : Int))
        have rb := rd_byte hs (Int.tmod (p * 7 + 3) (s.length : Int))
        generalize rd s (Int.tmod p (s.length : Int)) = a at *
        generalize rd s (Int.tmod (p * 7 + 3) (s.length : Int)) = b at *
        generalize Int.tdiv p (s.length : Int) = d at *
        rw [w64 (n := a) (by omega) (by omega), w64 (n := b) (by omega) (by omega), w64 (n := a * 131) (by omega) (by omega), w64 (n := b * 1117) (by omega) (by omega), w64 (n := a * 131 + b * 1117) (by omega) (by omega), w64 (n := p * 29) (by omega) (by omega), w64 (n := a * 131 + b * 1117 + p * 29) (by omega) (by omega), w64 (n := d) (by omega) (by omega), w64 (n := d * 53) (by omega) (by omega), w64 (n := a * 131 + b * 1117 + p * 29 + d * 53) (by omega) (by omega)]
        have hx : 0 ≤ a * 131 + b * 1117 + p * 29 + d * 53 ∧ a * 131 + b * 1117 + p * 29 + d * 53 ≤ 1000000000 := by omega
        generalize a * 131 + b * 1117 + p * 29 + d * 53 = x at *
        rw [td2 hx.1, w64 (n := x / 64) (by omega) (by omega)]
        have ht := tmod_lt (xor_range (a := x) (b := x / 64) (by omega) (by omega) (by omega) (by omega)) (show 1 ≤ n by omega)
        exact ⟨_, rfl, ht.1, fun _ => ht.2, fun h => by omega⟩

theorem one_ok (k : Nat) {s : List Int} {p : Int} (L : List Int) (hL : 1 ≤ (L.length : Int)) (hs : Bytes s) (hl : s.length ≤ 2000) (p0 : 0 ≤ p) (p1 : p ≤ 1000000) :
    ∃ v, spec_reader_one.f (k + 1) s p L = some (v, p + 1) ∧ v ∈ L := by
  obtain ⟨v, e, v0, v1, _⟩ := pick_ok k (L.length : Int) hs hl p0 p1
  unfold spec_reader_one.f
  rw [e, Option.bind_some]
  simp only
  rw [if_pos v0, if_pos (v1 hL)]
  exact ⟨_, rfl, rd_mem v0 (v1 hL)⟩

theorem pick_bind {β : Type} {P : β → Prop} {k : Nat} {s : List Int} {p n : Int} {f : Int × Int → Option β} (hs : Bytes s) (hl : s.length ≤ 2000) (p0 : 0 ≤ p) (p1 : p ≤ 1000000)
    (h : ∀ v, 0 ≤ v → (1 ≤ n → v < n) → ∃ r, f (v, p + 1) = some r ∧ P r) : ∃ r, (spec_reader_pick.f (k + 1) s p n).bind f = some r ∧ P r := by
  obtain ⟨v, e, v0, v1, _⟩ := pick_ok k n hs hl p0 p1
  rw [e, Option.bind_some]
  exact h v v0 v1

theorem one_bind {β : Type} {P : β → Prop} {k : Nat} {s : List Int} {p : Int} {L : List Int} {f : Int × Int → Option β} (hs : Bytes s) (hl : s.length ≤ 2000) (p0 : 0 ≤ p) (p1 : p ≤ 1000000) (hL : 1 ≤ (L.length : Int))
    (h : ∀ v, v ∈ L → ∃ r, f (v, p + 1) = some r ∧ P r) : ∃ r, (spec_reader_one.f (k + 1) s p L).bind f = some r ∧ P r := by
  obtain ⟨v, e, hv⟩ := one_ok k L hL hs hl p0 p1
  rw [e, Option.bind_some]
  exact h v hv

theorem goodPlace_ok (k : Nat) {s : List Int} {p : Int} (hs : Bytes s) (hl : s.length ≤ 2000) (p0 : 0 ≤ p) (p1 : p ≤ 900000) : ∃ r, spec_goodPlace.f (k + 1) s p = some r ∧ (0 ≤ r.2.2.2.2.2.2.2.2.2 ∧ r.2.2.2.2.2.2.2.2.2 ≤ p + 50) := by
  unfold spec_goodPlace.f
  repeat' first
    | (refine pick_bind hs hl (by omega) (by omega) (fun _ _ _ => ?_); try dsimp only)
    | (refine one_bind hs hl (by omega) (by omega) (by simp) (fun _ _ => ?_); try dsimp only)
    | split
  all_goals exact ⟨_, rfl, by dsimp only; omega, by dsimp only; omega⟩

theorem somePlace_ok (k : Nat) {s : List Int} {p : Int} (hs : Bytes s) (hl : s.length ≤ 2000) (p0 : 0 ≤ p) (p1 : p ≤ 900000) : ∃ r, spec_somePlace.f (k + 1) s p = some r ∧ (0 ≤ r.2.2.2.2.2.2.2.2.2 ∧ r.2.2.2.2.2.2.2.2.2 ≤ p + 100) := by
  unfold spec_somePlace.f
  obtain ⟨r, e, _, _⟩ := goodPlace_ok k hs hl p0 p1
  rw [e, Option.bind_some]
  repeat' first
    | (refine pick_bind hs hl (by omega) (by omega) (fun _ _ _ => ?_); try dsimp only)
    | (refine one_bind hs hl (by omega) (by omega) (by simp) (fun _ _ => ?_); try dsimp only)
    | split
  all_goals exact ⟨_, rfl, by dsimp only; omega, by dsimp only; omega⟩

theorem draw_ok (k : Nat) {l : List Int} (hb : Bytes l) : ∃ r, spec_DrawValidPlace.f (k + 1) l = some r ∧ True := by
  unfold spec_DrawValidPlace.f
  obtain ⟨s, e, hs, hl⟩ := newReader_ok l hb
  rw [e, Option.bind_some]
  dsimp only
  obtain ⟨r, e, _, _⟩ := somePlace_ok k (p := 0) hs hl (by omega) (by omega)
  rw [e, Option.bind_some]
  try dsimp only
  all_goals exact ⟨_, rfl, trivial⟩

theorem loop_ok (d : Nat) : ∀ (k : Nat) (i : Int) (x y rx ry w h rw_ rh a : Int), i + d = 9 → 0 ≤ i → d + 11 ≤ k → VP x y rx ry w h rw_ rh 0 → laws_FnValidPlace.l0 k i x y rx ry w h rw_ rh a = some true := by
  induction d with
  | zero =>
    intro k i x y rx ry w h rw_ rh a hi h0 hk hv
    obtain ⟨k, rfl⟩ : ∃ m, k = m + 1 := ⟨k - 1, by omega⟩
    rw [laws_FnValidPlace.l0, if_neg (by omega)]
  | succ d ih =>
    intro k i x y rx ry w h rw_ rh a hi h0 hk hv
    obtain ⟨k, rfl⟩ : ∃ m, k = m + 10 + 1 := ⟨k - 11, by omega⟩
    have hi' : VP x y rx ry w h rw_ rh i := by omega
    rw [laws_FnValidPlace.l0, if_pos (by omega), impl_ValidPlace_eq, Option.bind_some, if_pos (decide_eq_true hi'), w64 (n := i + 1) (by omega) (by omega)]
    exact ih (k + 10) (i + 1) x y rx ry w h rw_ rh i (by omega) (by omega) (by omega) hv

theorem FnValidPlace : laws_FnValidPlace.Pure := by
  intro l0 _ _ hw
  refine ⟨40, ?_⟩
  unfold laws_FnValidPlace.f
  by_cases hb : (l0.length : Int) > 1048576
  · rw [if_pos hb]
  obtain ⟨⟨x, y, rx, ry, w, h, rw_, rh, a⟩, e, _⟩ := draw_ok 39 (bytes_of hw)
  rw [if_neg hb, e, Option.bind_some]
  clear e
  dsimp only
  simp only [spec_ValidPlace_eq, impl_ValidPlace_eq 30, Option.bind_some, bne_self_false, laws_FnValidPlace.j0]
  rw [if_neg (by decide)]
  by_cases hv : VP x y rx ry w h rw_ rh a
  · rw [if_neg (by simp [hv])]
    exact loop_ok 9 39 0 x y rx ry w h rw_ rh a (by omega) (by omega) (by omega) (by omega)
  · rw [if_pos (by simp [hv])]
    simp

end Go.Proofs.Ytkecldjkakkgoaa.Pure
