/- The plain side of FnExactSashAt: the printed function answers true at every input; no condition is added. -/
import Derived.Test.YtfjpombdnbjomaaPFnExactSashAtx0
import Derived.Test.YtfjpombdnbjomaaPFnExactSashAtx1
import Derived.Test.YtfjpombdnbjomaaPFnExactSashAtx2
import Derived.Test.YtfjpombdnbjomaaPFnExactSashAtx3
import Derived.Test.YtfjpombdnbjomaaPanes
namespace Go.Proofs.Ytfjpombdnbjomaa.Pure
open Go.RowKit Go.Proofs.Ytfjpombdnbjomaa.PFnExactSashAt Go.Proofs.YtfjpombdnbjomaaW.PrintWords Go.Proofs.YtfjpombdnbjomaaW.PrintLast Go.Proofs.YtfjpombdnbjomaaW.PrintMore Go.Proofs.Ytfjpombdnbjomaa.Base
set_option linter.unusedVariables false
set_option linter.unusedSimpArgs false

theorem within_eq (a b c : Int) : impl_within.f a b c = some (decide (b ≤ a ∧ a ≤ c)) := by
  unfold impl_within.f
  by_cases h : b ≤ a
  · rw [if_pos h]; simp [h]
  · rw [if_neg h]; simp [h]

theorem inrange_eq (a b c : Int) : spec_inRange.f a b c = some (decide (b ≤ a ∧ a ≤ c)) := by
  unfold spec_inRange.f
  by_cases h : b ≤ a
  · rw [if_pos h]; simp [h]
  · rw [if_neg h]; simp [h]

theorem spec_total_loop {S : List Int} (hb : Bd S (-1000000) 1000000) (hl : (S.length : Int) ≤ 1000000) (d : Nat) : ∀ (k : Nat) (i acc : Int), i + d = (S.length : Int) → 0 ≤ i → d + 1 ≤ k → -1000000 * i ≤ acc → acc ≤ 1000000 * i → spec_total.l0 k S acc i = some (acc + sf S i) := by
  induction d with
  | zero =>
    intro k i acc hi h0 hk ha hb'
    obtain ⟨k, rfl⟩ : ∃ m, k = m + 1 := ⟨k - 1, by omega⟩
    rw [spec_total.l0, if_neg (by omega), sf_end (by omega)]
    simp
  | succ d ih =>
    intro k i acc hi h0 hk ha hb'
    obtain ⟨k, rfl⟩ : ∃ m, k = m + 1 := ⟨k - 1, by omega⟩
    have h1 := hb i h0 (by omega)
    rw [spec_total.l0, if_pos (by omega), if_pos h0, w64 (n := acc + rd S i) (by omega) (by omega), w64 (n := i + 1) (by omega) (by omega), ih k (i + 1) (acc + rd S i) (by omega) (by omega) (by omega) (by omega) (by omega), sf_step h0 (by omega)]
    congr 1
    omega
theorem spec_total_ok {S : List Int} (hb : Bd S (-1000000) 1000000) (hl : (S.length : Int) ≤ 1000000) (k : Nat) (hk : S.length + 1 ≤ k) : spec_total.f k S = some S.sum := by
  unfold spec_total.f
  have h := spec_total_loop hb hl S.length k 0 0 (by omega) (by omega) hk (by omega) (by omega)
  rw [Int.zero_add, sf_zero] at h
  exact h

theorem impl_panes_loop {S M : List Int} (hM : (M.length : Int) = (S.length : Int)) (hl : (S.length : Int) ≤ 6) (d : Nat) : ∀ (k : Nat) (i acc : Int), i + d = (S.length : Int) → 0 ≤ i → d + 1 ≤ k → 0 ≤ acc → acc ≤ 400 * i →
    ∃ b, impl_ValidPanes.l0 k acc S (S.length : Int) i S M = some b ∧ (b = true ↔ (∀ j : Int, i ≤ j → j < (S.length : Int) → 0 ≤ rd M j ∧ rd M j ≤ 30 ∧ rd M j ≤ rd S j ∧ rd S j ≤ 400) ∧ acc + sf S i ≤ 400) := by
  induction d with
  | zero =>
    intro k i acc hi h0 hk ha ha'
    obtain ⟨k, rfl⟩ : ∃ m, k = m + 1 := ⟨k - 1, by omega⟩
    rw [impl_ValidPanes.l0, if_neg (by omega), sf_end (by omega)]
    refine ⟨_, rfl, ?_⟩
    rw [decide_eq_true_eq]
    exact ⟨fun h => ⟨fun j h1 h2 => by omega, by omega⟩, fun h => by omega⟩
  | succ d ih =>
    intro k i acc hi h0 hk ha ha'
    obtain ⟨k, rfl⟩ : ∃ m, k = m + 1 := ⟨k - 1, by omega⟩
    rw [impl_ValidPanes.l0, if_pos (by omega), if_pos h0, if_pos (by omega), if_pos (by omega), within_eq, Option.bind_some, sf_step h0 (by omega)]
    by_cases h1 : 0 ≤ rd M i ∧ rd M i ≤ 30
    · rw [if_pos (decide_eq_true h1), within_eq, Option.bind_some]
      by_cases h2 : rd M i ≤ rd S i ∧ rd S i ≤ 400
      · rw [if_pos (decide_eq_true h2), w64 (n := acc + rd S i) (by omega) (by omega), w64 (n := i + 1) (by omega) (by omega)]
        obtain ⟨b, e, hb⟩ := ih k (i + 1) (acc + rd S i) (by omega) (by omega) (by omega) (by omega) (by omega)
        refine ⟨b, e, hb.trans ⟨fun q => ⟨fun j j1 j2 => ?_, by omega⟩, fun q => ⟨fun j j1 j2 => q.1 j (by omega) j2, by omega⟩⟩⟩
        by_cases e' : j = i
        · rw [e']; omega
        · exact q.1 j (by omega) j2
      · rw [if_neg (by rw [decide_eq_false h2]; decide)]
        refine ⟨false, rfl, ⟨fun q => (by cases q), fun q => ?_⟩⟩
        have := q.1 i (by omega) (by omega)
        exact absurd ⟨this.2.2.1, this.2.2.2⟩ h2
    · rw [if_neg (by rw [decide_eq_false h1]; decide)]
      refine ⟨false, rfl, ⟨fun q => (by cases q), fun q => ?_⟩⟩
      have := q.1 i (by omega) (by omega)
      exact absurd ⟨this.1, this.2.1⟩ h1
theorem impl_ValidPanes_tells (S M : List Int) (k : Nat) (hk : 10 ≤ k) : ∃ b, impl_ValidPanes.f k S M = some b ∧ (b = true ↔ VPN S M) := by
  unfold impl_ValidPanes.f
  obtain ⟨k, rfl⟩ : ∃ m, k = m + 1 := ⟨k - 1, by omega⟩
  rw [within_eq, Option.bind_some]
  by_cases h1 : 1 ≤ (S.length : Int) ∧ (S.length : Int) ≤ 6
  · rw [if_pos (decide_eq_true h1), impl_ValidPanes.j0]
    by_cases h2 : (M.length : Int) = (S.length : Int)
    · rw [if_neg (by rw [h2]; simp)]
      obtain ⟨b, e, hb⟩ := impl_panes_loop h2 h1.2 S.length k 0 0 (by omega) (by omega) (by omega) (by omega) (by omega)
      refine ⟨b, e, hb.trans ⟨fun q => ⟨h1.1, h1.2, h2, q.1, ?_⟩, fun q => ⟨q.each, ?_⟩⟩⟩
      · have := q.2; rw [sf_zero] at this; omega
      · have := q.sum; rw [sf_zero]; omega
    · rw [if_pos (by rw [bne_iff_ne]; exact h2)]
      exact ⟨false, rfl, ⟨fun q => (by cases q), fun q => absurd q.lenM h2⟩⟩
  · rw [if_neg (by rw [decide_eq_false h1]; decide), impl_ValidPanes.j0, if_pos rfl]
    exact ⟨false, rfl, ⟨fun q => (by cases q), fun q => absurd ⟨q.len1, q.len6⟩ h1⟩⟩

theorem spec_panes_loop1 {S M : List Int} (hS : ∀ j : Int, 0 ≤ j → j < (S.length : Int) → 0 ≤ rd S j ∧ rd S j ≤ 400) (hML : (M.length : Int) ≤ 4611686018427387904) (d : Nat) : ∀ (k : Nat) (i : Int), i + d = (M.length : Int) → 0 ≤ i → d + 9 ≤ k →
    ∃ b, spec_validPanes.l1 k i S M = some b ∧ (b = true ↔ (∀ j : Int, i ≤ j → j < (M.length : Int) → 0 ≤ rd M j ∧ rd M j ≤ 30 ∧ (j < (S.length : Int) → rd M j ≤ rd S j)) ∧ (1 ≤ (S.length : Int) ∧ (S.length : Int) ≤ 6) ∧ (M.length : Int) = (S.length : Int) ∧ S.sum ≤ 400) := by
  induction d with
  | zero =>
    intro k i hi h0 hk
    obtain ⟨k, rfl⟩ : ∃ m, k = m + 1 := ⟨k - 1, by omega⟩
    rw [spec_validPanes.l1, if_neg (by omega), inrange_eq, Option.bind_some]
    by_cases h1 : 1 ≤ (S.length : Int) ∧ (S.length : Int) ≤ 6
    · rw [if_pos (decide_eq_true h1)]
      by_cases h2 : (M.length : Int) = (S.length : Int)
      · rw [if_pos h2, spec_total_ok (fun j a b => by have := hS j a b; omega) (by omega) k (by omega), Option.bind_some]
        refine ⟨_, rfl, ?_⟩
        rw [decide_eq_true_eq]
        exact ⟨fun q => ⟨fun j j1 j2 => by omega, h1, h2, q⟩, fun q => q.2.2.2⟩
      · rw [if_neg h2]
        exact ⟨false, rfl, ⟨fun q => (by cases q), fun q => absurd q.2.2.1 h2⟩⟩
    · rw [if_neg (by rw [decide_eq_false h1]; decide)]
      exact ⟨false, rfl, ⟨fun q => (by cases q), fun q => absurd q.2.1 h1⟩⟩
  | succ d ih =>
    intro k i hi h0 hk
    obtain ⟨k, rfl⟩ : ∃ m, k = m + 1 := ⟨k - 1, by omega⟩
    rw [spec_validPanes.l1, if_pos (by omega), if_pos h0, inrange_eq, Option.bind_some, w64 (n := i + 1) (by omega) (by omega)]
    obtain ⟨b, e, hb⟩ := ih k (i + 1) (by omega) (by omega) (by omega)
    by_cases h1 : 0 ≤ rd M i ∧ rd M i ≤ 30
    · rw [if_pos (decide_eq_true h1)]
      have hstep : (i < (S.length : Int) → rd M i ≤ rd S i) → ((∀ j : Int, i + 1 ≤ j → j < (M.length : Int) → 0 ≤ rd M j ∧ rd M j ≤ 30 ∧ (j < (S.length : Int) → rd M j ≤ rd S j)) ↔ ∀ j : Int, i ≤ j → j < (M.length : Int) → 0 ≤ rd M j ∧ rd M j ≤ 30 ∧ (j < (S.length : Int) → rd M j ≤ rd S j)) := by
        intro hlt
        refine ⟨fun q j j1 j2 => ?_, fun q j j1 j2 => q j (by omega) j2⟩
        by_cases e' : j = i
        · rw [e']; exact ⟨h1.1, h1.2, hlt⟩
        · exact q j (by omega) j2
      by_cases h2 : i < (S.length : Int)
      · rw [if_pos h2]
        by_cases h3 : rd S i < rd M i
        · rw [if_pos h3]
          refine ⟨false, rfl, ⟨fun q => (by cases q), fun q => ?_⟩⟩
          have := (q.1 i (by omega) (by omega)).2.2 h2
          omega
        · rw [if_neg h3]
          exact ⟨b, e, hb.trans (and_congr_left fun _ => hstep (fun _ => by omega))⟩
      · rw [if_neg h2]
        exact ⟨b, e, hb.trans (and_congr_left fun _ => hstep (fun q => absurd q h2))⟩
    · rw [if_neg (by rw [decide_eq_false h1]; decide)]
      refine ⟨false, rfl, ⟨fun q => (by cases q), fun q => ?_⟩⟩
      have := q.1 i (by omega) (by omega)
      exact absurd ⟨this.1, this.2.1⟩ h1
theorem spec_panes_loop0 {S M : List Int} (hML : (M.length : Int) ≤ 4611686018427387904) (hSL : (S.length : Int) ≤ 4611686018427387904) (d : Nat) : ∀ (k : Nat) (i : Int), i + d = (S.length : Int) → 0 ≤ i → d + M.length + 10 ≤ k → (∀ j : Int, 0 ≤ j → j < i → 0 ≤ rd S j ∧ rd S j ≤ 400) →
    ∃ b, spec_validPanes.l0 k i S M = some b ∧ (b = true ↔ VPN S M) := by
  induction d with
  | zero =>
    intro k i hi h0 hk hS
    obtain ⟨k, rfl⟩ : ∃ m, k = m + 1 := ⟨k - 1, by omega⟩
    rw [spec_validPanes.l0, if_neg (by omega)]
    have hS' : ∀ j : Int, 0 ≤ j → j < (S.length : Int) → 0 ≤ rd S j ∧ rd S j ≤ 400 := fun j a b => hS j a (by omega)
    obtain ⟨b, e, hb⟩ := spec_panes_loop1 hS' hML M.length k 0 (by omega) (by omega) (by omega)
    refine ⟨b, e, hb.trans ⟨fun q => ⟨q.2.1.1, q.2.1.2, q.2.2.1, fun j j1 j2 => ?_, q.2.2.2⟩, fun q => ⟨fun j j1 j2 => ?_, ⟨q.len1, q.len6⟩, q.lenM, q.sum⟩⟩⟩
    · have a1 := q.1 j j1 (by have := q.2.2.1; omega)
      have a2 := hS' j j1 j2
      have a3 := a1.2.2 j2
      omega
    · have a1 := q.each j j1 (by have := q.lenM; omega)
      exact ⟨a1.1, a1.2.1, fun _ => a1.2.2.1⟩
  | succ d ih =>
    intro k i hi h0 hk hS
    obtain ⟨k, rfl⟩ : ∃ m, k = m + 1 := ⟨k - 1, by omega⟩
    rw [spec_validPanes.l0, if_pos (by omega), if_pos h0, inrange_eq, Option.bind_some, w64 (n := i + 1) (by omega) (by omega)]
    by_cases h1 : 0 ≤ rd S i ∧ rd S i ≤ 400
    · rw [if_pos (decide_eq_true h1)]
      refine ih k (i + 1) (by omega) (by omega) (by omega) (fun j j1 j2 => ?_)
      by_cases e' : j = i
      · rw [e']; exact h1
      · exact hS j j1 (by omega)
    · rw [if_neg (by rw [decide_eq_false h1]; decide)]
      refine ⟨false, rfl, ⟨fun q => (by cases q), fun q => ?_⟩⟩
      have := q.each i h0 (by omega)
      exact absurd ⟨by omega, this.2.2.2⟩ h1
theorem spec_validPanes_tells (S M : List Int) (hML : (M.length : Int) ≤ 4611686018427387904) (hSL : (S.length : Int) ≤ 4611686018427387904) (k : Nat) (hk : S.length + M.length + 10 ≤ k) : ∃ b, spec_validPanes.f k S M = some b ∧ (b = true ↔ VPN S M) := by
  unfold spec_validPanes.f
  exact spec_panes_loop0 hML hSL S.length k 0 (by omega) (by omega) hk (fun j a b => by omega)

theorem impl_sum_loop {S : List Int} (hb : Bd S (-1000000) 1000000) (hl : (S.length : Int) ≤ 1000000) (d : Nat) : ∀ (k : Nat) (i acc : Int), i + d = (S.length : Int) → 0 ≤ i → d + 1 ≤ k → -1000000 * i ≤ acc → acc ≤ 1000000 * i → impl_sum.l0 k acc S (S.length : Int) i = some (acc + sf S i) := by
  induction d with
  | zero =>
    intro k i acc hi h0 hk ha hb'
    obtain ⟨k, rfl⟩ : ∃ m, k = m + 1 := ⟨k - 1, by omega⟩
    rw [impl_sum.l0, if_neg (by omega), sf_end (by omega)]
    simp
  | succ d ih =>
    intro k i acc hi h0 hk ha hb'
    obtain ⟨k, rfl⟩ : ∃ m, k = m + 1 := ⟨k - 1, by omega⟩
    have h1 := hb i h0 (by omega)
    rw [impl_sum.l0, if_pos (by omega), if_pos h0, if_pos (by omega), w64 (n := acc + rd S i) (by omega) (by omega), w64 (n := i + 1) (by omega) (by omega), ih k (i + 1) (acc + rd S i) (by omega) (by omega) (by omega) (by omega) (by omega), sf_step h0 (by omega)]
    congr 1
    omega
theorem impl_sum_ok {S : List Int} (hb : Bd S (-1000000) 1000000) (hl : (S.length : Int) ≤ 1000000) (k : Nat) (hk : S.length + 1 ≤ k) : impl_sum.f k S = some S.sum := by
  unfold impl_sum.f
  have h := impl_sum_loop hb hl S.length k 0 0 (by omega) (by omega) hk (by omega) (by omega)
  rw [Int.zero_add, sf_zero] at h
  exact h

theorem rd_take {S : List Int} (m : Nat) {j : Int} (h0 : 0 ≤ j) (h1 : j < ((S.take m).length : Int)) : rd (S.take m) j = rd S j := by
  have h2 : j < (S.length : Int) := by rw [List.length_take] at h1; omega
  rw [rd_get h0 h1, rd_get h0 h2, List.getElem_take]
theorem bd_take {S : List Int} {a b : Int} (h : Bd S a b) (m : Nat) : Bd (S.take m) a b := by
  intro j h0 h1
  rw [rd_take m h0 h1]
  rw [List.length_take] at h1
  exact h j h0 (by omega)

theorem impl_SashAt_tells (S M : List Int) (n : Int) (hML : (M.length : Int) ≤ 1048576) (hSL : (S.length : Int) ≤ 1048576) (k : Nat) (hk : S.length + M.length + 20 ≤ k) :
    ∃ r, impl_SashAt.f k S M n = some r ∧ ((VPN S M ∧ 0 ≤ n ∧ n ≤ (S.length : Int) - 2) ∧ r = pre S (n + 1) ∨ ¬(VPN S M ∧ 0 ≤ n ∧ n ≤ (S.length : Int) - 2) ∧ r = -1) := by
  obtain ⟨b, e, hb⟩ := impl_ValidPanes_tells S M k (by omega)
  unfold impl_SashAt.f
  rw [e, Option.bind_some]
  cases b with
  | false =>
    rw [if_neg (by decide)]
    exact ⟨-1, rfl, .inr ⟨fun q => (by have := hb.2 q.1; cases this), rfl⟩⟩
  | true =>
    have hv := hb.1 rfl
    have h6 := hv.len6
    rw [if_pos rfl, within_eq, Option.bind_some, w64 (n := (S.length : Int) - 2) (by omega) (by omega)]
    by_cases h : 0 ≤ n ∧ n ≤ (S.length : Int) - 2
    · rw [if_pos (decide_eq_true h), w64 (n := n + 1) (by omega) (by omega), if_pos (by omega), if_pos (by omega), impl_sum_ok (bd_take (fun j a b => by have := hv.bdS j a b; omega) _) (by rw [List.length_take]; omega) k (by rw [List.length_take]; omega), Option.bind_some]
      exact ⟨_, rfl, .inl ⟨⟨hv, h⟩, rfl⟩⟩
    · rw [if_neg (by rw [decide_eq_false h]; decide)]
      exact ⟨-1, rfl, .inr ⟨fun q => h q.2, rfl⟩⟩

theorem spec_SashAt_tells (S M : List Int) (n : Int) (hML : (M.length : Int) ≤ 1048576) (hSL : (S.length : Int) ≤ 1048576) (k : Nat) (hk : S.length + M.length + 20 ≤ k) :
    ∃ r, spec_SashAt.f k S M n = some r ∧ ((VPN S M ∧ 0 ≤ n ∧ n ≤ (S.length : Int) - 2) ∧ r = pre S (n + 1) ∨ ¬(VPN S M ∧ 0 ≤ n ∧ n ≤ (S.length : Int) - 2) ∧ r = -1) := by
  obtain ⟨b, e, hb⟩ := spec_validPanes_tells S M (by omega) (by omega) k (by omega)
  unfold spec_SashAt.f
  rw [e, Option.bind_some]
  cases b with
  | false =>
    rw [if_neg (by decide)]
    exact ⟨-1, rfl, .inr ⟨fun q => (by have := hb.2 q.1; cases this), rfl⟩⟩
  | true =>
    have hv := hb.1 rfl
    have h6 := hv.len6
    rw [if_pos rfl, inrange_eq, Option.bind_some, w64 (n := (S.length : Int) - 2) (by omega) (by omega)]
    by_cases h : 0 ≤ n ∧ n ≤ (S.length : Int) - 2
    · rw [if_pos (decide_eq_true h), w64 (n := n + 1) (by omega) (by omega), if_pos (by omega), if_pos (by omega), spec_total_ok (bd_take (fun j a b => by have := hv.bdS j a b; omega) _) (by rw [List.length_take]; omega) k (by rw [List.length_take]; omega), Option.bind_some]
      exact ⟨_, rfl, .inl ⟨⟨hv, h⟩, rfl⟩⟩
    · rw [if_neg (by rw [decide_eq_false h]; decide)]
      exact ⟨-1, rfl, .inr ⟨fun q => h q.2, rfl⟩⟩

theorem toIntS_loop {l : List Int} (hl : (l.length : Int) ≤ 1048576) (d : Nat) : ∀ (k i : Nat), i + d = l.length → d + 1 ≤ k → laws_toIntS.l0 k l (l.take i ++ List.replicate d 0) (i : Int) = some l := by
  induction d with
  | zero =>
    intro k i hi hk
    obtain ⟨k, rfl⟩ : ∃ m, k = m + 1 := ⟨k - 1, by omega⟩
    rw [laws_toIntS.l0, if_neg (by omega), List.take_of_length_le (by omega)]
    simp
  | succ d ih =>
    intro k i hi hk
    obtain ⟨k, rfl⟩ : ∃ m, k = m + 1 := ⟨k - 1, by omega⟩
    have e : (l.take i ++ List.replicate (d + 1) 0).set (i : Int).toNat (rd l i) = l.take (i + 1) ++ List.replicate d 0 := by
      rw [Int.toNat_natCast, List.replicate_succ, List.set_append_right _ _ (by rw [List.length_take]; omega), List.length_take, show i - min i l.length = 0 from by omega, List.set_cons_zero, List.take_succ_eq_append_getElem (by omega), rd_get (by omega) (by omega), List.append_assoc]
      rfl
    have hlen : ((l.take i ++ List.replicate (d + 1) (0 : Int)).length : Int) = l.length := by
      rw [List.length_append, List.length_take, List.length_replicate]
      omega
    rw [laws_toIntS.l0, if_pos (by omega), if_pos (by omega), if_pos (by rw [hlen]; omega), e, w64 (n := (i : Int) + 1) (by omega) (by omega), show (i : Int) + 1 = ((i + 1 : Nat) : Int) from by omega]
    exact ih k (i + 1) (by omega) (by omega)
theorem toIntS_ok {l : List Int} (hl : (l.length : Int) ≤ 1048576) (k : Nat) (hk : l.length + 1 ≤ k) : laws_toIntS.f k l = some l := by
  unfold laws_toIntS.f
  rw [if_pos (by omega), if_pos (by omega)]
  have h := toIntS_loop hl l.length k 0 (by omega) hk
  simpa using h
theorem eqIntS_loop {l : List Int} (hl : (l.length : Int) ≤ 1048576) (d : Nat) : ∀ (k : Nat) (i : Int), i + d = (l.length : Int) → 0 ≤ i → d + 1 ≤ k → laws_eqIntS.l0 k l l i = some true := by
  induction d with
  | zero =>
    intro k i hi h0 hk
    obtain ⟨k, rfl⟩ : ∃ m, k = m + 1 := ⟨k - 1, by omega⟩
    rw [laws_eqIntS.l0, if_neg (by omega)]
  | succ d ih =>
    intro k i hi h0 hk
    obtain ⟨k, rfl⟩ : ∃ m, k = m + 1 := ⟨k - 1, by omega⟩
    rw [laws_eqIntS.l0, if_pos (by omega), if_pos h0, if_pos (by omega), if_pos rfl, w64 (n := i + 1) (by omega) (by omega)]
    exact ih k (i + 1) (by omega) (by omega) (by omega)
theorem eqIntS_ok {l : List Int} (hl : (l.length : Int) ≤ 1048576) (k : Nat) (hk : l.length + 1 ≤ k) : laws_eqIntS.f k l l = some true := by
  unfold laws_eqIntS.f
  rw [if_pos rfl]
  exact eqIntS_loop hl l.length k 0 (by omega) (by omega) hk
theorem toPanes_ok {S M : List Int} (h : (S.length : Int) + (M.length : Int) ≤ 1048576) (k : Nat) (hk : S.length + M.length + 1 ≤ k) : laws_toPanes.f k S M = some (S, M) := by
  unfold laws_toPanes.f
  rw [toIntS_ok (by omega) k (by omega), toIntS_ok (by omega) k (by omega)]
  rfl
theorem eqPanes_ok {S M : List Int} (h : (S.length : Int) + (M.length : Int) ≤ 1048576) (k : Nat) (hk : S.length + M.length + 1 ≤ k) : laws_eqPanes.f k S M S M = some true := by
  unfold laws_eqPanes.f
  rw [eqIntS_ok (by omega) k (by omega), eqIntS_ok (by omega) k (by omega)]
  rfl
theorem sz_ok {S M : List Int} (hS : S.length ≤ maxLen) (hM : M.length ≤ maxLen) : ∃ v, laws_szPanes.f S M 1048576 = some v ∧ (v < 0 ∨ (S.length : Int) + (M.length : Int) ≤ 1048576) := by
  have e : maxLen = 9223372036854775807 := by decide
  rw [e] at hS hM
  unfold laws_szPanes.f laws_szIntS.f
  rw [w64 (n := 1048576 - (S.length : Int)) (by omega) (by omega)]
  by_cases h1 : 1048576 - (S.length : Int) < 0
  · rw [if_pos h1]
    exact ⟨-1, rfl, .inl (by omega)⟩
  · rw [if_neg h1, Option.bind_some, if_neg h1, w64 (n := 1048576 - (S.length : Int) - (M.length : Int)) (by omega) (by omega)]
    by_cases h2 : 1048576 - (S.length : Int) - (M.length : Int) < 0
    · rw [if_pos h2]
      exact ⟨-1, rfl, .inl (by omega)⟩
    · rw [if_neg h2, Option.bind_some, if_neg h2]
      exact ⟨_, rfl, .inr (by omega)⟩

theorem FnExactSashAt (l0_0 l0_1 : List Int) (a1 : Int) (h0 : l0_0.length ≤ maxLen) (h1 : l0_1.length ≤ maxLen) (w1 : (Lit.int .i64 a1).wf = true) : ∃ k, laws_FnExactSashAt.f k l0_0 l0_1 a1 = some true := by
  refine ⟨l0_0.length + l0_1.length + 60, ?_⟩
  unfold laws_FnExactSashAt.f
  obtain ⟨v, e, hv⟩ := sz_ok h0 h1
  rw [e, Option.bind_some]
  by_cases hn : v < 0
  · rw [if_pos hn]
  · have hb : (l0_0.length : Int) + (l0_1.length : Int) ≤ 1048576 := by omega
    rw [if_neg hn, toPanes_ok hb _ (by omega)]
    simp only [Option.bind_some]
    obtain ⟨r, e1, q1⟩ := impl_SashAt_tells l0_0 l0_1 a1 (by omega) (by omega) (l0_0.length + l0_1.length + 60) (by omega)
    obtain ⟨r', e2, q2⟩ := spec_SashAt_tells l0_0 l0_1 a1 (by omega) (by omega) (l0_0.length + l0_1.length + 60) (by omega)
    have hr : r = r' := by rcases q1 with ⟨c1, rfl⟩ | ⟨c1, rfl⟩ <;> rcases q2 with ⟨c2, rfl⟩ | ⟨c2, rfl⟩ <;> first | rfl | (exact absurd c1 c2) | (exact absurd c2 c1)
    subst hr
    rw [e1, e2]
    simp only [Option.bind_some, if_true]
    rw [eqPanes_ok hb _ (by omega)]
    rfl

end Go.Proofs.Ytfjpombdnbjomaa.Pure
