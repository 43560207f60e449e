/- The plain side of FnSashAt: the printed function answers true at every input; no condition is added. -/
import Derived.Test.YtnekecbhjlamoaaQFnSashAtx0
import Derived.Test.YtnekecbhjlamoaaQFnSashAtx1
import Derived.Test.YtnekecbhjlamoaaQFnSashAtx2
import Derived.Test.YtnekecbhjlamoaaQFnSashAtx3
import Derived.Test.YtnekecbhjlamoaaQFnSashAtx4
import Derived.Test.YtnekecbhjlamoaaQFnSashAtx5
import Derived.Test.YtnekecbhjlamoaaPanes
namespace Go.Proofs.Ytnekecbhjlamoaa.Pure
open Go.RowKit Go.Proofs.Ytnekecbhjlamoaa.PFnSashAt Go.Proofs.YtnekecbhjlamoaaW.PrintWords Go.Proofs.YtnekecbhjlamoaaW.PrintLast Go.Proofs.YtnekecbhjlamoaaW.PrintMore Go.Proofs.Ytnekecbhjlamoaa.Base
set_option linter.unusedVariables false
set_option linter.unusedSimpArgs false

theorem within_eq (a b c : Int) : impl_within.f a b c = some (decide (b ≤ a ∧ a ≤ c)) := by
  unfold impl_within.f
  by_cases h : b ≤ a
  · rw [if_pos h]; simp [h]
  · rw [if_neg h]; simp [h]

theorem inrange_eq (a b c : Int) : spec_inRange.f a b c = some (decide (b ≤ a ∧ a ≤ c)) := by
  unfold spec_inRange.f
  by_cases h : b ≤ a
  · rw [if_pos h]; simp [h]
  · rw [if_neg h]; simp [h]

theorem spec_total_loop {S : List Int} (hb : Bd S (-1000000) 1000000) (hl : (S.length : Int) ≤ 1000000) (d : Nat) : ∀ (k : Nat) (i acc : Int), i + d = (S.length : Int) → 0 ≤ i → d + 1 ≤ k → -1000000 * i ≤ acc → acc ≤ 1000000 * i → spec_total.l0 k S acc i = some (acc + sf S i) := by
  induction d with
  | zero =>
    intro k i acc hi h0 hk ha hb'
    obtain ⟨k, rfl⟩ : ∃ m, k = m + 1 := ⟨k - 1, by omega⟩
    rw [spec_total.l0, if_neg (by omega), sf_end (by omega)]
    simp
  | succ d ih =>
    intro k i acc hi h0 hk ha hb'
    obtain ⟨k, rfl⟩ : ∃ m, k = m + 1 := ⟨k - 1, by omega⟩
    have h1 := hb i h0 (by omega)
    rw [spec_total.l0, if_pos (by omega), if_pos h0, w64 (n := acc + rd S i) (by omega) (by omega), w64 (n := i + 1) (by omega) (by omega), ih k (i + 1) (acc + rd S i) (by omega) (by omega) (by omega) (by omega) (by omega), sf_step h0 (by omega)]
    congr 1
    omega
theorem spec_total_ok {S : List Int} (hb : Bd S (-1000000) 1000000) (hl : (S.length : Int) ≤ 1000000) (k : Nat) (hk : S.length + 1 ≤ k) : spec_total.f k S = some S.sum := by
  unfold spec_total.f
  have h := spec_total_loop hb hl S.length k 0 0 (by omega) (by omega) hk (by omega) (by omega)
  rw [Int.zero_add, sf_zero] at h
  exact h

theorem impl_panes_loop {S M : List Int} (hM : (M.length : Int) = (S.length : Int)) (hl : (S.length : Int) ≤ 6) (d : Nat) : ∀ (k : Nat) (i acc : Int), i + d = (S.length : Int) → 0 ≤ i → d + 1 ≤ k → 0 ≤ acc → acc ≤ 400 * i →
    ∃ b, impl_ValidPanes.l0 k acc S (S.length : Int) i S M = some b ∧ (b = true ↔ (∀ j : Int, i ≤ j → j < (S.length : Int) → 0 ≤ rd M j ∧ rd M j ≤ 30 ∧ rd M j ≤ rd S j ∧ rd S j ≤ 400) ∧ acc + sf S i ≤ 400) := by
  induction d with
  | zero =>
    intro k i acc hi h0 hk ha ha'
    obtain ⟨k, rfl⟩ : ∃ m, k = m + 1 := ⟨k - 1, by omega⟩
    rw [impl_ValidPanes.l0, if_neg (by omega), sf_end (by omega)]
    refine ⟨_, rfl, ?_⟩
    rw [decide_eq_true_eq]
    exact ⟨fun h => ⟨fun j h1 h2 => by omega, by omega⟩, fun h => by omega⟩
  | succ d ih =>
    intro k i acc hi h0 hk ha ha'
    obtain ⟨k, rfl⟩ : ∃ m, k = m + 1 := ⟨k - 1, by omega⟩
    rw [impl_ValidPanes.l0, if_pos (by omega), if_pos h0, if_pos (by omega), if_pos (by omega), within_eq, Option.bind_some, sf_step h0 (by omega)]
    by_cases h1 : 0 ≤ rd M i ∧ rd M i ≤ 30
    · rw [if_pos (decide_eq_true h1), within_eq, Option.bind_some]
      by_cases h2 : rd M i ≤ rd S i ∧ rd S i ≤ 400
      · rw [if_pos (decide_eq_true h2), w64 (n := acc + rd S i) (by omega) (by omega), w64 (n := i + 1) (by omega) (by omega)]
        obtain ⟨b, e, hb⟩ := ih k (i + 1) (acc + rd S i) (by omega) (by omega) (by omega) (by omega) (by omega)
        refine ⟨b, e, hb.trans ⟨fun q => ⟨fun j j1 j2 => ?_, by omega⟩, fun q => ⟨fun j j1 j2 => q.1 j (by omega) j2, by omega⟩⟩⟩
        by_cases e' : j = i
        · rw [e']; omega
        · exact q.1 j (by omega) j2
      · rw [if_neg (by rw [decide_eq_false h2]; decide)]
        refine ⟨false, rfl, ⟨fun q => (by cases q), fun q => ?_⟩⟩
        have := q.1 i (by omega) (by omega)
        exact absurd ⟨this.2.2.1, this.2.2.2⟩ h2
    · rw [if_neg (by rw [decide_eq_false h1]; decide)]
      refine ⟨false, rfl, ⟨fun q => (by cases q), fun q => ?_⟩⟩
      have := q.1 i (by omega) (by omega)
      exact absurd ⟨this.1, this.2.1⟩ h1
theorem impl_ValidPanes_tells (S M : List Int) (k : Nat) (hk : 10 ≤ k) : ∃ b, impl_ValidPanes.f k S M = some b ∧ (b = true ↔ VPN S M) := by
  unfold impl_ValidPanes.f
  obtain ⟨k, rfl⟩ : ∃ m, k = m + 1 := ⟨k - 1, by omega⟩
  rw [within_eq, Option.bind_some]
  by_cases h1 : 1 ≤ (S.length : Int) ∧ (S.length : Int) ≤ 6
  · rw [if_pos (decide_eq_true h1), impl_ValidPanes.j0]
    by_cases h2 : (M.length : Int) = (S.length : Int)
    · rw [if_neg (by rw [h2]; simp)]
      obtain ⟨b, e, hb⟩ := impl_panes_loop h2 h1.2 S.length k 0 0 (by omega) (by omega) (by omega) (by omega) (by omega)
      refine ⟨b, e, hb.trans ⟨fun q => ⟨h1.1, h1.2, h2, q.1, ?_⟩, fun q => ⟨q.each, ?_⟩⟩⟩
      · have := q.2; rw [sf_zero] at this; omega
      · have := q.sum; rw [sf_zero]; omega
    · rw [if_pos (by rw [bne_iff_ne]; exact h2)]
      exact ⟨false, rfl, ⟨fun q => (by cases q), fun q => absurd q.lenM h2⟩⟩
  · rw [if_neg (by rw [decide_eq_false h1]; decide), impl_ValidPanes.j0, if_pos rfl]
    exact ⟨false, rfl, ⟨fun q => (by cases q), fun q => absurd ⟨q.len1, q.len6⟩ h1⟩⟩

theorem spec_panes_loop1 {S M : List Int} (hS : ∀ j : Int, 0 ≤ j → j < (S.length : Int) → 0 ≤ rd S j ∧ rd S j ≤ 400) (hML : (M.length : Int) ≤ 4611686018427387904) (d : Nat) : ∀ (k : Nat) (i : Int), i + d = (M.length : Int) → 0 ≤ i → d + 9 ≤ k →
    ∃ b, spec_validPanes.l1 k i S M = some b ∧ (b = true ↔ (∀ j : Int, i ≤ j → j < (M.length : Int) → 0 ≤ rd M j ∧ rd M j ≤ 30 ∧ (j < (S.length : Int) → rd M j ≤ rd S j)) ∧ (1 ≤ (S.length : Int) ∧ (S.length : Int) ≤ 6) ∧ (M.length : Int) = (S.length : Int) ∧ S.sum ≤ 400) := by
  induction d with
  | zero =>
    intro k i hi h0 hk
    obtain ⟨k, rfl⟩ : ∃ m, k = m + 1 := ⟨k - 1, by omega⟩
    rw [spec_validPanes.l1, if_neg (by omega), inrange_eq, Option.bind_some]
    by_cases h1 : 1 ≤ (S.length : Int) ∧ (S.length : Int) ≤ 6
    · rw [if_pos (decide_eq_true h1)]
      by_cases h2 : (M.length : Int) = (S.length : Int)
      · rw [if_pos h2, spec_total_ok (fun j a b => by have := hS j a b; omega) (by omega) k (by omega), Option.bind_some]
        refine ⟨_, rfl, ?_⟩
        rw [decide_eq_true_eq]
        exact ⟨fun q => ⟨fun j j1 j2 => by omega, h1, h2, q⟩, fun q => q.2.2.2⟩
      · rw [if_neg h2]
        exact ⟨false, rfl, ⟨fun q => (by cases q), fun q => absurd q.2.2.1 h2⟩⟩
    · rw [if_neg (by rw [decide_eq_false h1]; decide)]
      exact ⟨false, rfl, ⟨fun q => (by cases q), fun q => absurd q.2.1 h1⟩⟩
  | succ d ih =>
    intro k i hi h0 hk
    obtain ⟨k, rfl⟩ : ∃ m, k = m + 1 := ⟨k - 1, by omega⟩
    rw [spec_validPanes.l1, if_pos (by omega), if_pos h0, inrange_eq, Option.bind_some, w64 (n := i + 1) (by omega) (by omega)]
    obtain ⟨b, e, hb⟩ := ih k (i + 1) (by omega) (by omega) (by omega)
    by_cases h1 : 0 ≤ rd M i ∧ rd M i ≤ 30
    · rw [if_pos (decide_eq_true h1)]
      have hstep : (i < (S.length : Int) → rd M i ≤ rd S i) → ((∀ j : Int, i + 1 ≤ j → j < (M.length : Int) → 0 ≤ rd M j ∧ rd M j ≤ 30 ∧ (j < (S.length : Int) → rd M j ≤ rd S j)) ↔ ∀ j : Int, i ≤ j → j < (M.length : Int) → 0 ≤ rd M j ∧ rd M j ≤ 30 ∧ (j < (S.length : Int) → rd M j ≤ rd S j)) := by
        intro hlt
        refine ⟨fun q j j1 j2 => ?_, fun q j j1 j2 => q j (by omega) j2⟩
        by_cases e' : j = i
        · rw [e']; exact ⟨h1.1, h1.2, hlt⟩
        · exact q j (by omega) j2
      by_cases h2 : i < (S.length : Int)
      · rw [if_pos h2]
        by_cases h3 : rd S i < rd M i
        · rw [if_pos h3]
          refine ⟨false, rfl, ⟨fun q => (by cases q), fun q => ?_⟩⟩
          have := (q.1 i (by omega) (by omega)).2.2 h2
          omega
        · rw [if_neg h3]
          exact ⟨b, e, hb.trans (and_congr_left fun _ => hstep (fun _ => by omega))⟩
      · rw [if_neg h2]
        exact ⟨b, e, hb.trans (and_congr_left fun _ => hstep (fun q => absurd q h2))⟩
    · rw [if_neg (by rw [decide_eq_false h1]; decide)]
      refine ⟨false, rfl, ⟨fun q => (by cases q), fun q => ?_⟩⟩
      have := q.1 i (by omega) (by omega)
      exact absurd ⟨this.1, this.2.1⟩ h1
theorem spec_panes_loop0 {S M : List Int} (hML : (M.length : Int) ≤ 4611686018427387904) (hSL : (S.length : Int) ≤ 4611686018427387904) (d : Nat) : ∀ (k : Nat) (i : Int), i + d = (S.length : Int) → 0 ≤ i → d + M.length + 10 ≤ k → (∀ j : Int, 0 ≤ j → j < i → 0 ≤ rd S j ∧ rd S j ≤ 400) →
    ∃ b, spec_validPanes.l0 k i S M = some b ∧ (b = true ↔ VPN S M) := by
  induction d with
  | zero =>
    intro k i hi h0 hk hS
    obtain ⟨k, rfl⟩ : ∃ m, k = m + 1 := ⟨k - 1, by omega⟩
    rw [spec_validPanes.l0, if_neg (by omega)]
    have hS' : ∀ j : Int, 0 ≤ j → j < (S.length : Int) → 0 ≤ rd S j ∧ rd S j ≤ 400 := fun j a b => hS j a (by omega)
    obtain ⟨b, e, hb⟩ := spec_panes_loop1 hS' hML M.length k 0 (by omega) (by omega) (by omega)
    refine ⟨b, e, hb.trans ⟨fun q => ⟨q.2.1.1, q.2.1.2, q.2.2.1, fun j j1 j2 => ?_, q.2.2.2⟩, fun q => ⟨fun j j1 j2 => ?_, ⟨q.len1, q.len6⟩, q.lenM, q.sum⟩⟩⟩
    · have a1 := q.1 j j1 (by have := q.2.2.1; omega)
      have a2 := hS' j j1 j2
      have a3 := a1.2.2 j2
      omega
    · have a1 := q.each j j1 (by have := q.lenM; omega)
      exact ⟨a1.1, a1.2.1, fun _ => a1.2.2.1⟩
  | succ d ih =>
    intro k i hi h0 hk hS
    obtain ⟨k, rfl⟩ : ∃ m, k = m + 1 := ⟨k - 1, by omega⟩
    rw [spec_validPanes.l0, if_pos (by omega), if_pos h0, inrange_eq, Option.bind_some, w64 (n := i + 1) (by omega) (by omega)]
    by_cases h1 : 0 ≤ rd S i ∧ rd S i ≤ 400
    · rw [if_pos (decide_eq_true h1)]
      refine ih k (i + 1) (by omega) (by omega) (by omega) (fun j j1 j2 => ?_)
      by_cases e' : j = i
      · rw [e']; exact h1
      · exact hS j j1 (by omega)
    · rw [if_neg (by rw [decide_eq_false h1]; decide)]
      refine ⟨false, rfl, ⟨fun q => (by cases q), fun q => ?_⟩⟩
      have := q.each i h0 (by omega)
      exact absurd ⟨by omega, this.2.2.2⟩ h1
theorem spec_validPanes_tells (S M : List Int) (hML : (M.length : Int) ≤ 4611686018427387904) (hSL : (S.length : Int) ≤ 4611686018427387904) (k : Nat) (hk : S.length + M.length + 10 ≤ k) : ∃ b, spec_validPanes.f k S M = some b ∧ (b = true ↔ VPN S M) := by
  unfold spec_validPanes.f
  exact spec_panes_loop0 hML hSL S.length k 0 (by omega) (by omega) hk (fun j a b => by omega)

theorem laws_total_loop {S : List Int} (hb : Bd S (-1000000) 1000000) (hl : (S.length : Int) ≤ 1000000) (d : Nat) : ∀ (k : Nat) (i acc : Int), i + d = (S.length : Int) → 0 ≤ i → d + 1 ≤ k → -1000000 * i ≤ acc → acc ≤ 1000000 * i → laws_total.l0 k S acc i = some (acc + sf S i) := by
  induction d with
  | zero =>
    intro k i acc hi h0 hk ha hb'
    obtain ⟨k, rfl⟩ : ∃ m, k = m + 1 := ⟨k - 1, by omega⟩
    rw [laws_total.l0, if_neg (by omega), sf_end (by omega)]
    simp
  | succ d ih =>
    intro k i acc hi h0 hk ha hb'
    obtain ⟨k, rfl⟩ : ∃ m, k = m + 1 := ⟨k - 1, by omega⟩
    have h1 := hb i h0 (by omega)
    rw [laws_total.l0, if_pos (by omega), if_pos h0, w64 (n := acc + rd S i) (by omega) (by omega), w64 (n := i + 1) (by omega) (by omega), ih k (i + 1) (acc + rd S i) (by omega) (by omega) (by omega) (by omega) (by omega), sf_step h0 (by omega)]
    congr 1
    omega
theorem laws_total_ok {S : List Int} (hb : Bd S (-1000000) 1000000) (hl : (S.length : Int) ≤ 1000000) (k : Nat) (hk : S.length + 1 ≤ k) : laws_total.f k S = some S.sum := by
  unfold laws_total.f
  have h := laws_total_loop hb hl S.length k 0 0 (by omega) (by omega) hk (by omega) (by omega)
  rw [Int.zero_add, sf_zero] at h
  exact h

theorem impl_sum_loop {S : List Int} (hb : Bd S (-1000000) 1000000) (hl : (S.length : Int) ≤ 1000000) (d : Nat) : ∀ (k : Nat) (i acc : Int), i + d = (S.length : Int) → 0 ≤ i → d + 1 ≤ k → -1000000 * i ≤ acc → acc ≤ 1000000 * i → impl_sum.l0 k acc S (S.length : Int) i = some (acc + sf S i) := by
  induction d with
  | zero =>
    intro k i acc hi h0 hk ha hb'
    obtain ⟨k, rfl⟩ : ∃ m, k = m + 1 := ⟨k - 1, by omega⟩
    rw [impl_sum.l0, if_neg (by omega), sf_end (by omega)]
    simp
  | succ d ih =>
    intro k i acc hi h0 hk ha hb'
    obtain ⟨k, rfl⟩ : ∃ m, k = m + 1 := ⟨k - 1, by omega⟩
    have h1 := hb i h0 (by omega)
    rw [impl_sum.l0, if_pos (by omega), if_pos h0, if_pos (by omega), w64 (n := acc + rd S i) (by omega) (by omega), w64 (n := i + 1) (by omega) (by omega), ih k (i + 1) (acc + rd S i) (by omega) (by omega) (by omega) (by omega) (by omega), sf_step h0 (by omega)]
    congr 1
    omega
theorem impl_sum_ok {S : List Int} (hb : Bd S (-1000000) 1000000) (hl : (S.length : Int) ≤ 1000000) (k : Nat) (hk : S.length + 1 ≤ k) : impl_sum.f k S = some S.sum := by
  unfold impl_sum.f
  have h := impl_sum_loop hb hl S.length k 0 0 (by omega) (by omega) hk (by omega) (by omega)
  rw [Int.zero_add, sf_zero] at h
  exact h

theorem rd_take {S : List Int} (m : Nat) {j : Int} (h0 : 0 ≤ j) (h1 : j < ((S.take m).length : Int)) : rd (S.take m) j = rd S j := by
  have h2 : j < (S.length : Int) := by rw [List.length_take] at h1; omega
  rw [rd_get h0 h1, rd_get h0 h2, List.getElem_take]
theorem bd_take {S : List Int} {a b : Int} (h : Bd S a b) (m : Nat) : Bd (S.take m) a b := by
  intro j h0 h1
  rw [rd_take m h0 h1]
  rw [List.length_take] at h1
  exact h j h0 (by omega)

theorem impl_SashAt_tells (S M : List Int) (n : Int) (hML : (M.length : Int) ≤ 1048576) (hSL : (S.length : Int) ≤ 1048576) (k : Nat) (hk : S.length + M.length + 20 ≤ k) :
    ∃ r, impl_SashAt.f k S M n = some r ∧ ((VPN S M ∧ 0 ≤ n ∧ n ≤ (S.length : Int) - 2) ∧ r = pre S (n + 1) ∨ ¬(VPN S M ∧ 0 ≤ n ∧ n ≤ (S.length : Int) - 2) ∧ r = -1) := by
  obtain ⟨b, e, hb⟩ := impl_ValidPanes_tells S M k (by omega)
  unfold impl_SashAt.f
  rw [e, Option.bind_some]
  cases b with
  | false =>
    rw [if_neg (by decide)]
    exact ⟨-1, rfl, .inr ⟨fun q => (by have := hb.2 q.1; cases this), rfl⟩⟩
  | true =>
    have hv := hb.1 rfl
    have h6 := hv.len6
    rw [if_pos rfl, within_eq, Option.bind_some, w64 (n := (S.length : Int) - 2) (by omega) (by omega)]
    by_cases h : 0 ≤ n ∧ n ≤ (S.length : Int) - 2
    · rw [if_pos (decide_eq_true h), w64 (n := n + 1) (by omega) (by omega), if_pos (by omega), if_pos (by omega), impl_sum_ok (bd_take (fun j a b => by have := hv.bdS j a b; omega) _) (by rw [List.length_take]; omega) k (by rw [List.length_take]; omega), Option.bind_some]
      exact ⟨_, rfl, .inl ⟨⟨hv, h⟩, rfl⟩⟩
    · rw [if_neg (by rw [decide_eq_false h]; decide)]
      exact ⟨-1, rfl, .inr ⟨fun q => h q.2, rfl⟩⟩

theorem spec_SashAt_tells (S M : List Int) (n : Int) (hML : (M.length : Int) ≤ 1048576) (hSL : (S.length : Int) ≤ 1048576) (k : Nat) (hk : S.length + M.length + 20 ≤ k) :
    ∃ r, spec_SashAt.f k S M n = some r ∧ ((VPN S M ∧ 0 ≤ n ∧ n ≤ (S.length : Int) - 2) ∧ r = pre S (n + 1) ∨ ¬(VPN S M ∧ 0 ≤ n ∧ n ≤ (S.length : Int) - 2) ∧ r = -1) := by
  obtain ⟨b, e, hb⟩ := spec_validPanes_tells S M (by omega) (by omega) k (by omega)
  unfold spec_SashAt.f
  rw [e, Option.bind_some]
  cases b with
  | false =>
    rw [if_neg (by decide)]
    exact ⟨-1, rfl, .inr ⟨fun q => (by have := hb.2 q.1; cases this), rfl⟩⟩
  | true =>
    have hv := hb.1 rfl
    have h6 := hv.len6
    rw [if_pos rfl, inrange_eq, Option.bind_some, w64 (n := (S.length : Int) - 2) (by omega) (by omega)]
    by_cases h : 0 ≤ n ∧ n ≤ (S.length : Int) - 2
    · rw [if_pos (decide_eq_true h), w64 (n := n + 1) (by omega) (by omega), if_pos (by omega), if_pos (by omega), spec_total_ok (bd_take (fun j a b => by have := hv.bdS j a b; omega) _) (by rw [List.length_take]; omega) k (by rw [List.length_take]; omega), Option.bind_some]
      exact ⟨_, rfl, .inl ⟨⟨hv, h⟩, rfl⟩⟩
    · rw [if_neg (by rw [decide_eq_false h]; decide)]
      exact ⟨-1, rfl, .inr ⟨fun q => h q.2, rfl⟩⟩

theorem impl_line_loop {S : List Int} (hb : Bd S 0 400) (hl : (S.length : Int) ≤ 6) (n : Int) (d : Nat) : ∀ (k : Nat) (i acc : Int), i + d = (S.length : Int) → 0 ≤ i → d + 1 ≤ k → 0 ≤ acc → acc ≤ 400 * i → impl_lineAt.l0 k n acc S (S.length : Int) i = some (lineF S n d i acc) := by
  induction d with
  | zero =>
    intro k i acc hi h0 hk ha hb'
    obtain ⟨k, rfl⟩ : ∃ m, k = m + 1 := ⟨k - 1, by omega⟩
    rw [impl_lineAt.l0, if_neg (by omega)]
    rfl
  | succ d ih =>
    intro k i acc hi h0 hk ha hb'
    obtain ⟨k, rfl⟩ : ∃ m, k = m + 1 := ⟨k - 1, by omega⟩
    have h1 := hb i h0 (by omega)
    rw [impl_lineAt.l0, if_pos (by omega), if_pos h0, if_pos (by omega), w64 (n := acc + rd S i) (by omega) (by omega), w64 (n := i + 1) (by omega) (by omega), lineF]
    by_cases h : n < acc + rd S i
    · rw [if_pos h, if_pos h]
    · rw [if_neg h, if_neg h]
      exact ih k (i + 1) (acc + rd S i) (by omega) (by omega) (by omega) (by omega) (by omega)
theorem impl_lineAt_tells {S : List Int} (hb : Bd S 0 400) (hl : (S.length : Int) ≤ 6) (n : Int) (k : Nat) (hk : 10 ≤ k) : impl_lineAt.f k S n = some (if 0 ≤ n then lineF S n S.length 0 0 else -1) := by
  unfold impl_lineAt.f
  by_cases h : n < 0
  · rw [if_pos h, if_neg (by omega)]
  · rw [if_neg h, if_pos (by omega)]
    exact impl_line_loop hb hl n S.length k 0 0 (by omega) (by omega) (by omega) (by omega) (by omega)

theorem impl_PaneAt_tells (S M : List Int) (n : Int) (hML : (M.length : Int) ≤ 1048576) (hSL : (S.length : Int) ≤ 1048576) (k : Nat) (hk : S.length + M.length + 20 ≤ k) :
    ∃ r, impl_PaneAt.f k S M n = some r ∧ ((VPN S M ∧ 0 ≤ n) ∧ r = lineF S n S.length 0 0 ∨ ¬(VPN S M ∧ 0 ≤ n) ∧ r = -1) := by
  obtain ⟨b, e, hb⟩ := impl_ValidPanes_tells S M k (by omega)
  unfold impl_PaneAt.f
  rw [e, Option.bind_some]
  cases b with
  | false =>
    rw [if_neg (by decide)]
    exact ⟨-1, rfl, .inr ⟨fun q => (by have := hb.2 q.1; cases this), rfl⟩⟩
  | true =>
    have hv := hb.1 rfl
    rw [if_pos rfl, impl_lineAt_tells hv.bdS hv.len6 n k (by omega), Option.bind_some]
    by_cases h : 0 ≤ n
    · rw [if_pos h]
      exact ⟨_, rfl, .inl ⟨⟨hv, h⟩, rfl⟩⟩
    · rw [if_neg h]
      exact ⟨-1, rfl, .inr ⟨fun q => h q.2, rfl⟩⟩

theorem newReader_ok (l : List Int) (hl : Bytes l) : ∃ s, spec_newReader.f l = some (s, 0) ∧ Bytes s ∧ s.length ≤ 2000 := by
  unfold spec_newReader.f
  by_cases h : (l.length : Int) > 2000
  · rw [if_pos h, if_pos (by omega)]
    exact ⟨_, rfl, fun x hx => hl x (List.mem_of_mem_take hx), List.length_take_le _ _⟩
  · rw [if_neg h]
    exact ⟨l, rfl, hl, by omega⟩
theorem pick_ok (k : Nat) {s : List Int} {p : Int} (n : Int) (hs : Bytes s) (hl : s.length ≤ 2000) (p0 : 0 ≤ p) (p1 : p ≤ 1000000) :
    ∃ v, spec_reader_pick.f (k + 1) s p n = some (v, p + 1) ∧ 0 ≤ v ∧ (1 ≤ n → v < n) ∧ (n < 1 → v = 0) := by
  unfold spec_reader_pick.f
  rw [w64 (n := p + 1) (by omega) (by omega)]
  by_cases h1 : n < 1
  · rw [if_pos h1, spec_reader_pick.j0, if_pos rfl]
    exact ⟨0, rfl, by omega, by omega, fun _ => rfl⟩
  · rw [if_neg h1, spec_reader_pick.j0]
    by_cases h2 : (s.length : Int) = 0
    · rw [if_pos (by simp only [h2]; rfl)]
      exact ⟨0, rfl, by omega, by omega, fun _ => rfl⟩
    · rw [if_neg (by rw [beq_iff_eq]; exact h2), w64 (n := p + 1 - 1) (by omega) (by omega), show p + 1 - 1 = p from by omega]
      by_cases h3 : p < (s.length : Int)
      · have hr := rd_byte hs p
        rw [if_pos h3, if_pos p0, if_neg (by omega), w64 (n := rd s p) (by omega) (by omega)]
        have ht := tmod_lt hr.1 (show 1 ≤ n by omega)
        exact ⟨_, rfl, ht.1, fun _ => ht.2, fun h => by omega⟩
      · have hlen : 1 ≤ (s.length : Int) := by omega
        have q1 := tmod_lt p0 hlen
        have q2 := tmod_lt (a := p * 7 + 3) (by omega) hlen
        have qd : 0 ≤ Int.tdiv p (s.length : Int) ∧ Int.tdiv p (s.length : Int) ≤ p := by
          rw [td2 p0]
          exact ⟨Int.ediv_nonneg p0 (by omega), Int.ediv_le_self _ p0⟩
        rw [if_neg h3, if_neg h2, if_pos q1.1, if_pos q1.2, w64 (n := p * 7) (by omega) (by omega), w64 (n := p * 7 + 3) (by omega) (by omega), if_pos q2.1, if_pos q2.2, if_neg (by omega)]
        have ra := rd_byte hs (Int.tmod p (s.length : Int))
        have rb := rd_byte hs (Int.tmod (p * 7 + 3) (s.length : Int))
        generalize rd s (Int.tmod p (s.length : Int)) = a at *
        generalize rd s (Int.tmod (p * 7 + 3) (s.length : Int)) = b at *
        generalize Int.tdiv p (s.length : Int) = d at *
        rw [w64 (n := a) (by omega) (by omega), w64 (n := b) (by omega) (by omega), w64 (n := a * 131) (by omega) (by omega), w64 (n := b * 1117) (by omega) (by omega), w64 (n := a * 131 + b * 1117) (by omega) (by omega), w64 (n := p * 29) (by omega) (by omega), w64 (n := a * 131 + b * 1117 + p * 29) (by omega) (by omega), w64 (n := d) (by omega) (by omega), w64 (n := d * 53) (by omega) (by omega), w64 (n := a * 131 + b * 1117 + p * 29 + d * 53) (by omega) (by omega)]
        have hx : 0 ≤ a * 131 + b * 1117 + p * 29 + d * 53 ∧ a * 131 + b * 1117 + p * 29 + d * 53 ≤ 1000000000 := by omega
        generalize a * 131 + b * 1117 + p * 29 + d * 53 = x at *
        rw [td2 hx.1, w64 (n := x / 64) (by omega) (by omega)]
        have ht := tmod_lt (xor_range (a := x) (b := x / 64) (by omega) (by omega) (by omega) (by omega)) (show 1 ≤ n by omega)
        exact ⟨_, rfl, ht.1, fun _ => ht.2, fun h => by omega⟩

theorem one_ok (k : Nat) {s : List Int} {p : Int} (L : List Int) (hL : 1 ≤ (L.length : Int)) (hs : Bytes s) (hl : s.length ≤ 2000) (p0 : 0 ≤ p) (p1 : p ≤ 1000000) :
    ∃ v, spec_reader_one.f (k + 1) s p L = some (v, p + 1) ∧ v ∈ L := by
  obtain ⟨v, e, v0, v1, _⟩ := pick_ok k (L.length : Int) hs hl p0 p1
  unfold spec_reader_one.f
  rw [e, Option.bind_some]
  simp only
  rw [if_pos v0, if_pos (v1 hL)]
  exact ⟨_, rfl, rd_mem v0 (v1 hL)⟩

theorem pick_bind {β : Type} {P : β → Prop} {k : Nat} {s : List Int} {p n : Int} {f : Int × Int → Option β} (hs : Bytes s) (hl : s.length ≤ 2000) (p0 : 0 ≤ p) (p1 : p ≤ 1000000)
    (h : ∀ v, 0 ≤ v → (1 ≤ n → v < n) → ∃ r, f (v, p + 1) = some r ∧ P r) : ∃ r, (spec_reader_pick.f (k + 1) s p n).bind f = some r ∧ P r := by
  obtain ⟨v, e, v0, v1, _⟩ := pick_ok k n hs hl p0 p1
  rw [e, Option.bind_some]
  exact h v v0 v1

theorem one_bind {β : Type} {P : β → Prop} {k : Nat} {s : List Int} {p : Int} {L : List Int} {f : Int × Int → Option β} (hs : Bytes s) (hl : s.length ≤ 2000) (p0 : 0 ≤ p) (p1 : p ≤ 1000000) (hL : 1 ≤ (L.length : Int))
    (h : ∀ v, v ∈ L → ∃ r, f (v, p + 1) = some r ∧ P r) : ∃ r, (spec_reader_one.f (k + 1) s p L).bind f = some r ∧ P r := by
  obtain ⟨v, e, hv⟩ := one_ok k L hL hs hl p0 p1
  rw [e, Option.bind_some]
  exact h v hv

theorem panes_loop {s : List Int} (hs : Bytes s) (hl : s.length ≤ 2000) (d : Nat) : ∀ (k : Nat) (x p : Int) (A B : List Int), x = d → A.length = B.length → A.length + d ≤ 6 → 1 ≤ A.length + d → d + 3 ≤ k → 0 ≤ p → p + 2 * (d : Int) ≤ 890000 →
    ∃ r, spec_somePanes.l0 k x s p A B = some r ∧ (r.1.length ≤ 6 ∧ r.2.1.length ≤ 6) ∧ 0 ≤ r.2.2 ∧ r.2.2 ≤ p + 2 * d + 10 := by
  induction d with
  | zero =>
    intro k x p A B hx hAB h6 h1 hk p0 p1
    obtain ⟨k, rfl⟩ : ∃ m, k = m + 1 + 1 := ⟨k - 2, by omega⟩
    rw [spec_somePanes.l0, if_neg (by omega)]
    refine pick_bind hs hl p0 (by omega) (fun v _ _ => ?_)
    dsimp only
    split
    · refine one_bind hs hl (by omega) (by omega) (by simp) (fun v _ => ?_)
      rw [if_pos (by omega)]
      refine ⟨_, rfl, ⟨?_, ?_⟩, by dsimp only; omega, by dsimp only; omega⟩
      · simp; omega
      · dsimp only; omega
    · split
      · refine one_bind hs hl (by omega) (by omega) (by simp) (fun v _ => ?_)
        rw [if_pos (by omega)]
        refine ⟨_, rfl, ⟨?_, ?_⟩, by dsimp only; omega, by dsimp only; omega⟩
        · dsimp only; omega
        · simp; omega
      · split
        · rw [if_pos (by omega)]
          refine ⟨_, rfl, ⟨?_, ?_⟩, by dsimp only; omega, by dsimp only; omega⟩
          · dsimp only; omega
          · simp; omega
        · exact ⟨_, rfl, ⟨by dsimp only; omega, by dsimp only; omega⟩, by dsimp only; omega, by dsimp only; omega⟩
  | succ d ih =>
    intro k x p A B hx hAB h6 h1 hk p0 p1
    obtain ⟨k, rfl⟩ : ∃ m, k = m + 1 + 1 := ⟨k - 2, by omega⟩
    rw [spec_somePanes.l0, if_pos (by omega)]
    refine one_bind hs hl p0 (by omega) (by simp) (fun v _ => ?_)
    rw [if_pos (by omega)]
    dsimp only
    refine one_bind hs hl (by omega) (by omega) (by simp) (fun v' _ => ?_)
    rw [if_pos (by omega), w64 (n := x - 1) (by omega) (by omega)]
    obtain ⟨r, e, hr1, hr2, hr3⟩ := ih (k + 1) (x - 1) (p + 1 + 1) (A ++ [wrap64 (v + v')]) (B ++ [v]) (by omega) (by simp; omega) (by simp; omega) (by simp; omega) (by omega) (by omega) (by omega)
    exact ⟨r, e, hr1, hr2, by omega⟩
theorem somePanes_ok (k : Nat) {s : List Int} {p : Int} (hs : Bytes s) (hl : s.length ≤ 2000) (p0 : 0 ≤ p) (p1 : p ≤ 800000) : ∃ r, spec_somePanes.f (k + 10) s p = some r ∧ (r.1.length ≤ 6 ∧ r.2.1.length ≤ 6) ∧ 0 ≤ r.2.2 ∧ r.2.2 ≤ p + 100 := by
  unfold spec_somePanes.f
  refine one_bind (k := k + 9) hs hl p0 (by omega) (by simp) (fun v hv => ?_)
  dsimp only
  have hv' : v = 3 ∨ v = 2 ∨ v = 4 ∨ v = 1 ∨ v = 6 := by simpa using hv
  obtain ⟨r, e, hr1, hr2, hr3⟩ := panes_loop hs hl v.toNat (k + 10) v (p + 1) [] [] (by omega) rfl (by simp; omega) (by simp; omega) (by omega) (by omega) (by omega)
  exact ⟨r, e, hr1, hr2, by omega⟩

theorem draw_ok (k : Nat) {l : List Int} (hb : Bytes l) : ∃ r, spec_DrawSashAt.f (k + 10) l = some r ∧ (r.1.length ≤ 6 ∧ r.2.1.length ≤ 6) := by
  unfold spec_DrawSashAt.f
  obtain ⟨s, e, hs, hl⟩ := newReader_ok l hb
  rw [e, Option.bind_some]
  dsimp only
  obtain ⟨r, e, hr, _, _⟩ := somePanes_ok k (p := 0) hs hl (by omega) (by omega)
  rw [e, Option.bind_some]
  try dsimp only
  repeat' first
    | (refine pick_bind (k := k + 9) hs hl (by omega) (by omega) (fun _ _ _ => ?_); try dsimp only)
    | (refine one_bind (k := k + 9) hs hl (by omega) (by omega) (by simp) (fun _ _ => ?_); try dsimp only)
    | split
  all_goals exact ⟨_, rfl, hr⟩

theorem FnSashAt : laws_FnSashAt.Pure := by
  intro l0 _ _ hw
  refine ⟨60, ?_⟩
  unfold laws_FnSashAt.f
  by_cases hb : (l0.length : Int) > 1048576
  · rw [if_pos hb]
  obtain ⟨⟨S, M, n⟩, e, hS6, hM6⟩ := draw_ok 50 (bytes_of hw)
  rw [if_neg hb, e, Option.bind_some]
  clear e
  dsimp only at hS6 hM6
  dsimp only
  obtain ⟨r, e1, q1⟩ := impl_SashAt_tells S M n (by omega) (by omega) 60 (by omega)
  obtain ⟨r1, e2, q2⟩ := spec_SashAt_tells S M n (by omega) (by omega) 60 (by omega)
  obtain ⟨r2, e3, q3⟩ := spec_SashAt_tells S M n (by omega) (by omega) 59 (by omega)
  have hr1 : r = r1 := by rcases q1 with ⟨c1, rfl⟩ | ⟨c1, rfl⟩ <;> rcases q2 with ⟨c2, rfl⟩ | ⟨c2, rfl⟩ <;> first | rfl | (exact absurd c1 c2) | (exact absurd c2 c1)
  have hr2 : r = r2 := by rcases q1 with ⟨c1, rfl⟩ | ⟨c1, rfl⟩ <;> rcases q3 with ⟨c2, rfl⟩ | ⟨c2, rfl⟩ <;> first | rfl | (exact absurd c1 c2) | (exact absurd c2 c1)
  rw [← hr1] at e2
  rw [← hr2] at e3
  clear q2 q3 hr1 hr2
  rw [e1, Option.bind_some, e2, Option.bind_some, if_pos rfl]
  rw [laws_FnSashAt.j0]
  by_cases hn : r < 0
  · rw [if_pos (decide_eq_true hn), e3, Option.bind_some, beq_self_eq_true]
  · rw [if_neg (by rw [decide_eq_false hn]; decide)]
    rcases q1 with ⟨⟨hv, h0, h1⟩, hr⟩ | ⟨_, hr⟩
    · obtain ⟨t, e4, q4⟩ := impl_PaneAt_tells S M r (by omega) (by omega) 59 (by omega)
      have h4 : t = lineF S r S.length 0 0 := by
        rcases q4 with ⟨_, h4⟩ | ⟨c4, _⟩
        · exact h4
        · exact absurd ⟨hv, by omega⟩ c4
      have l4 := lineF_tells S r S.length 0 (by omega) (by omega) (by rw [pre_zero]; omega)
      rw [pre_zero, ← h4] at l4
      have hsum : r ≤ S.sum := by
        have p := pre_le hv.bdS (i := n + 1) (j := (S.length : Int)) (by omega) (by omega) (by omega)
        rw [pre_end (i := (S.length : Int)) (by omega)] at p
        omega
      have hs := hv.sum
      have ht : t < 0 ∨ t > n := by
        rcases l4 with ⟨a, _⟩ | ⟨a1, a2, a3, a4⟩
        · exact .inl (by omega)
        · by_cases hc : t > n
          · exact .inr hc
          · exfalso
            have p1 := pre_le hv.bdS (i := t + 1) (j := n + 1) (by omega) (by omega) (by omega)
            rw [pre_step a1 a2] at p1
            omega
      have tail : (if r = 0 then ((laws_total.f 59 S).bind fun t1 => (some (decide (r ≤ t1)))) else ((impl_PaneAt.f 59 S M (wrap64 (r - 1))).bind fun t2 => (if t2 ≤ n then ((laws_total.f 59 S).bind fun t1 => (some (decide (r ≤ t1)))) else (some false)))) = some true := by
        rw [laws_total_ok (fun j a b => by have := hv.bdS j a b; omega) (by omega) 59 (by omega), Option.bind_some, decide_eq_true hsum]
        by_cases hz : r = 0
        · rw [if_pos hz]
        · rw [if_neg hz, w64 (n := r - 1) (by omega) (by omega)]
          obtain ⟨t', e5, q5⟩ := impl_PaneAt_tells S M (r - 1) (by omega) (by omega) 59 (by omega)
          have h5 : t' = lineF S (r - 1) S.length 0 0 := by
            rcases q5 with ⟨_, h5⟩ | ⟨c5, _⟩
            · exact h5
            · exact absurd ⟨hv, by omega⟩ c5
          have l5 := lineF_tells S (r - 1) S.length 0 (by omega) (by omega) (by rw [pre_zero]; omega)
          rw [pre_zero, ← h5] at l5
          have ht' : t' ≤ n := by
            rcases l5 with ⟨a, _⟩ | ⟨a1, a2, a3, a4⟩
            · omega
            · by_cases hc : t' ≤ n
              · exact hc
              · exfalso
                have p1 := pre_le hv.bdS (i := n + 1) (j := t') (by omega) (by omega) (by omega)
                omega
          rw [e5, Option.bind_some, if_pos ht']
      rw [e4, Option.bind_some]
      by_cases h9 : t < 0
      · rw [if_pos h9]
        exact tail
      · rw [if_neg h9, if_pos (by omega)]
        exact tail
    · exact absurd (by omega : r < 0) hn

end Go.Proofs.Ytnekecbhjlamoaa.Pure
