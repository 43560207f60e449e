/- The plain side of FnDragSashFar: the printed function answers true at every input; no condition is added. -/
import Derived.Test.YtffihkpnampboaaQFnDragSashFarx0
import Derived.Test.YtffihkpnampboaaQFnDragSashFarx1
import Derived.Test.YtffihkpnampboaaQFnDragSashFarx2
import Derived.Test.YtffihkpnampboaaQFnDragSashFarx3
import Derived.Test.YtffihkpnampboaaQFnDragSashFarx4
import Derived.Test.YtffihkpnampboaaPanes
namespace Go.Proofs.Ytffihkpnampboaa.Pure
open Go.RowKit Go.Proofs.Ytffihkpnampboaa.PFnDragSashFar Go.Proofs.YtffihkpnampboaaW.PrintWords Go.Proofs.YtffihkpnampboaaW.PrintLast Go.Proofs.YtffihkpnampboaaW.PrintMore Go.Proofs.Ytffihkpnampboaa.Base
set_option linter.unusedVariables false
set_option linter.unusedSimpArgs false

theorem within_eq (a b c : Int) : impl_within.f a b c = some (decide (b ≤ a ∧ a ≤ c)) := by
  unfold impl_within.f
  by_cases h : b ≤ a
  · rw [if_pos h]; simp [h]
  · rw [if_neg h]; simp [h]

theorem inrange_eq (a b c : Int) : spec_inRange.f a b c = some (decide (b ≤ a ∧ a ≤ c)) := by
  unfold spec_inRange.f
  by_cases h : b ≤ a
  · rw [if_pos h]; simp [h]
  · rw [if_neg h]; simp [h]

theorem spec_total_loop {S : List Int} (hb : Bd S (-1000000) 1000000) (hl : (S.length : Int) ≤ 1000000) (d : Nat) : ∀ (k : Nat) (i acc : Int), i + d = (S.length : Int) → 0 ≤ i → d + 1 ≤ k → -1000000 * i ≤ acc → acc ≤ 1000000 * i → spec_total.l0 k S acc i = some (acc + sf S i) := by
  induction d with
  | zero =>
    intro k i acc hi h0 hk ha hb'
    obtain ⟨k, rfl⟩ : ∃ m, k = m + 1 := ⟨k - 1, by omega⟩
    rw [spec_total.l0, if_neg (by omega), sf_end (by omega)]
    simp
  | succ d ih =>
    intro k i acc hi h0 hk ha hb'
    obtain ⟨k, rfl⟩ : ∃ m, k = m + 1 := ⟨k - 1, by omega⟩
    have h1 := hb i h0 (by omega)
    rw [spec_total.l0, if_pos (by omega), if_pos h0, w64 (n := acc + rd S i) (by omega) (by omega), w64 (n := i + 1) (by omega) (by omega), ih k (i + 1) (acc + rd S i) (by omega) (by omega) (by omega) (by omega) (by omega), sf_step h0 (by omega)]
    congr 1
    omega
theorem spec_total_ok {S : List Int} (hb : Bd S (-1000000) 1000000) (hl : (S.length : Int) ≤ 1000000) (k : Nat) (hk : S.length + 1 ≤ k) : spec_total.f k S = some S.sum := by
  unfold spec_total.f
  have h := spec_total_loop hb hl S.length k 0 0 (by omega) (by omega) hk (by omega) (by omega)
  rw [Int.zero_add, sf_zero] at h
  exact h

theorem impl_panes_loop {S M : List Int} (hM : (M.length : Int) = (S.length : Int)) (hl : (S.length : Int) ≤ 6) (d : Nat) : ∀ (k : Nat) (i acc : Int), i + d = (S.length : Int) → 0 ≤ i → d + 1 ≤ k → 0 ≤ acc → acc ≤ 400 * i →
    ∃ b, impl_ValidPanes.l0 k acc S (S.length : Int) i S M = some b ∧ (b = true ↔ (∀ j : Int, i ≤ j → j < (S.length : Int) → 0 ≤ rd M j ∧ rd M j ≤ 30 ∧ rd M j ≤ rd S j ∧ rd S j ≤ 400) ∧ acc + sf S i ≤ 400) := by
  induction d with
  | zero =>
    intro k i acc hi h0 hk ha ha'
    obtain ⟨k, rfl⟩ : ∃ m, k = m + 1 := ⟨k - 1, by omega⟩
    rw [impl_ValidPanes.l0, if_neg (by omega), sf_end (by omega)]
    refine ⟨_, rfl, ?_⟩
    rw [decide_eq_true_eq]
    exact ⟨fun h => ⟨fun j h1 h2 => by omega, by omega⟩, fun h => by omega⟩
  | succ d ih =>
    intro k i acc hi h0 hk ha ha'
    obtain ⟨k, rfl⟩ : ∃ m, k = m + 1 := ⟨k - 1, by omega⟩
    rw [impl_ValidPanes.l0, if_pos (by omega), if_pos h0, if_pos (by omega), if_pos (by omega), within_eq, Option.bind_some, sf_step h0 (by omega)]
    by_cases h1 : 0 ≤ rd M i ∧ rd M i ≤ 30
    · rw [if_pos (decide_eq_true h1), within_eq, Option.bind_some]
      by_cases h2 : rd M i ≤ rd S i ∧ rd S i ≤ 400
      · rw [if_pos (decide_eq_true h2), w64 (n := acc + rd S i) (by omega) (by omega), w64 (n := i + 1) (by omega) (by omega)]
        obtain ⟨b, e, hb⟩ := ih k (i + 1) (acc + rd S i) (by omega) (by omega) (by omega) (by omega) (by omega)
        refine ⟨b, e, hb.trans ⟨fun q => ⟨fun j j1 j2 => ?_, by omega⟩, fun q => ⟨fun j j1 j2 => q.1 j (by omega) j2, by omega⟩⟩⟩
        by_cases e' : j = i
        · rw [e']; omega
        · exact q.1 j (by omega) j2
      · rw [if_neg (by rw [decide_eq_false h2]; decide)]
        refine ⟨false, rfl, ⟨fun q => (by cases q), fun q => ?_⟩⟩
        have := q.1 i (by omega) (by omega)
        exact absurd ⟨this.2.2.1, this.2.2.2⟩ h2
    · rw [if_neg (by rw [decide_eq_false h1]; decide)]
      refine ⟨false, rfl, ⟨fun q => (by cases q), fun q => ?_⟩⟩
      have := q.1 i (by omega) (by omega)
      exact absurd ⟨this.1, this.2.1⟩ h1
theorem impl_ValidPanes_tells (S M : List Int) (k : Nat) (hk : 10 ≤ k) : ∃ b, impl_ValidPanes.f k S M = some b ∧ (b = true ↔ VPN S M) := by
  unfold impl_ValidPanes.f
  obtain ⟨k, rfl⟩ : ∃ m, k = m + 1 := ⟨k - 1, by omega⟩
  rw [within_eq, Option.bind_some]
  by_cases h1 : 1 ≤ (S.length : Int) ∧ (S.length : Int) ≤ 6
  · rw [if_pos (decide_eq_true h1), impl_ValidPanes.j0]
    by_cases h2 : (M.length : Int) = (S.length : Int)
    · rw [if_neg (by rw [h2]; simp)]
      obtain ⟨b, e, hb⟩ := impl_panes_loop h2 h1.2 S.length k 0 0 (by omega) (by omega) (by omega) (by omega) (by omega)
      refine ⟨b, e, hb.trans ⟨fun q => ⟨h1.1, h1.2, h2, q.1, ?_⟩, fun q => ⟨q.each, ?_⟩⟩⟩
      · have := q.2; rw [sf_zero] at this; omega
      · have := q.sum; rw [sf_zero]; omega
    · rw [if_pos (by rw [bne_iff_ne]; exact h2)]
      exact ⟨false, rfl, ⟨fun q => (by cases q), fun q => absurd q.lenM h2⟩⟩
  · rw [if_neg (by rw [decide_eq_false h1]; decide), impl_ValidPanes.j0, if_pos rfl]
    exact ⟨false, rfl, ⟨fun q => (by cases q), fun q => absurd ⟨q.len1, q.len6⟩ h1⟩⟩

theorem spec_panes_loop1 {S M : List Int} (hS : ∀ j : Int, 0 ≤ j → j < (S.length : Int) → 0 ≤ rd S j ∧ rd S j ≤ 400) (hML : (M.length : Int) ≤ 4611686018427387904) (d : Nat) : ∀ (k : Nat) (i : Int), i + d = (M.length : Int) → 0 ≤ i → d + 9 ≤ k →
    ∃ b, spec_validPanes.l1 k i S M = some b ∧ (b = true ↔ (∀ j : Int, i ≤ j → j < (M.length : Int) → 0 ≤ rd M j ∧ rd M j ≤ 30 ∧ (j < (S.length : Int) → rd M j ≤ rd S j)) ∧ (1 ≤ (S.length : Int) ∧ (S.length : Int) ≤ 6) ∧ (M.length : Int) = (S.length : Int) ∧ S.sum ≤ 400) := by
  induction d with
  | zero =>
    intro k i hi h0 hk
    obtain ⟨k, rfl⟩ : ∃ m, k = m + 1 := ⟨k - 1, by omega⟩
    rw [spec_validPanes.l1, if_neg (by omega), inrange_eq, Option.bind_some]
    by_cases h1 : 1 ≤ (S.length : Int) ∧ (S.length : Int) ≤ 6
    · rw [if_pos (decide_eq_true h1)]
      by_cases h2 : (M.length : Int) = (S.length : Int)
      · rw [if_pos h2, spec_total_ok (fun j a b => by have := hS j a b; omega) (by omega) k (by omega), Option.bind_some]
        refine ⟨_, rfl, ?_⟩
        rw [decide_eq_true_eq]
        exact ⟨fun q => ⟨fun j j1 j2 => by omega, h1, h2, q⟩, fun q => q.2.2.2⟩
      · rw [if_neg h2]
        exact ⟨false, rfl, ⟨fun q => (by cases q), fun q => absurd q.2.2.1 h2⟩⟩
    · rw [if_neg (by rw [decide_eq_false h1]; decide)]
      exact ⟨false, rfl, ⟨fun q => (by cases q), fun q => absurd q.2.1 h1⟩⟩
  | succ d ih =>
    intro k i hi h0 hk
    obtain ⟨k, rfl⟩ : ∃ m, k = m + 1 := ⟨k - 1, by omega⟩
    rw [spec_validPanes.l1, if_pos (by omega), if_pos h0, inrange_eq, Option.bind_some, w64 (n := i + 1) (by omega) (by omega)]
    obtain ⟨b, e, hb⟩ := ih k (i + 1) (by omega) (by omega) (by omega)
    by_cases h1 : 0 ≤ rd M i ∧ rd M i ≤ 30
    · rw [if_pos (decide_eq_true h1)]
      have hstep : (i < (S.length : Int) → rd M i ≤ rd S i) → ((∀ j : Int, i + 1 ≤ j → j < (M.length : Int) → 0 ≤ rd M j ∧ rd M j ≤ 30 ∧ (j < (S.length : Int) → rd M j ≤ rd S j)) ↔ ∀ j : Int, i ≤ j → j < (M.length : Int) → 0 ≤ rd M j ∧ rd M j ≤ 30 ∧ (j < (S.length : Int) → rd M j ≤ rd S j)) := by
        intro hlt
        refine ⟨fun q j j1 j2 => ?_, fun q j j1 j2 => q j (by omega) j2⟩
        by_cases e' : j = i
        · rw [e']; exact ⟨h1.1, h1.2, hlt⟩
        · exact q j (by omega) j2
      by_cases h2 : i < (S.length : Int)
      · rw [if_pos h2]
        by_cases h3 : rd S i < rd M i
        · rw [if_pos h3]
          refine ⟨false, rfl, ⟨fun q => (by cases q), fun q => ?_⟩⟩
          have := (q.1 i (by omega) (by omega)).2.2 h2
          omega
        · rw [if_neg h3]
          exact ⟨b, e, hb.trans (and_congr_left fun _ => hstep (fun _ => by omega))⟩
      · rw [if_neg h2]
        exact ⟨b, e, hb.trans (and_congr_left fun _ => hstep (fun q => absurd q h2))⟩
    · rw [if_neg (by rw [decide_eq_false h1]; decide)]
      refine ⟨false, rfl, ⟨fun q => (by cases q), fun q => ?_⟩⟩
      have := q.1 i (by omega) (by omega)
      exact absurd ⟨this.1, this.2.1⟩ h1
theorem spec_panes_loop0 {S M : List Int} (hML : (M.length : Int) ≤ 4611686018427387904) (hSL : (S.length : Int) ≤ 4611686018427387904) (d : Nat) : ∀ (k : Nat) (i : Int), i + d = (S.length : Int) → 0 ≤ i → d + M.length + 10 ≤ k → (∀ j : Int, 0 ≤ j → j < i → 0 ≤ rd S j ∧ rd S j ≤ 400) →
    ∃ b, spec_validPanes.l0 k i S M = some b ∧ (b = true ↔ VPN S M) := by
  induction d with
  | zero =>
    intro k i hi h0 hk hS
    obtain ⟨k, rfl⟩ : ∃ m, k = m + 1 := ⟨k - 1, by omega⟩
    rw [spec_validPanes.l0, if_neg (by omega)]
    have hS' : ∀ j : Int, 0 ≤ j → j < (S.length : Int) → 0 ≤ rd S j ∧ rd S j ≤ 400 := fun j a b => hS j a (by omega)
    obtain ⟨b, e, hb⟩ := spec_panes_loop1 hS' hML M.length k 0 (by omega) (by omega) (by omega)
    refine ⟨b, e, hb.trans ⟨fun q => ⟨q.2.1.1, q.2.1.2, q.2.2.1, fun j j1 j2 => ?_, q.2.2.2⟩, fun q => ⟨fun j j1 j2 => ?_, ⟨q.len1, q.len6⟩, q.lenM, q.sum⟩⟩⟩
    · have a1 := q.1 j j1 (by have := q.2.2.1; omega)
      have a2 := hS' j j1 j2
      have a3 := a1.2.2 j2
      omega
    · have a1 := q.each j j1 (by have := q.lenM; omega)
      exact ⟨a1.1, a1.2.1, fun _ => a1.2.2.1⟩
  | succ d ih =>
    intro k i hi h0 hk hS
    obtain ⟨k, rfl⟩ : ∃ m, k = m + 1 := ⟨k - 1, by omega⟩
    rw [spec_validPanes.l0, if_pos (by omega), if_pos h0, inrange_eq, Option.bind_some, w64 (n := i + 1) (by omega) (by omega)]
    by_cases h1 : 0 ≤ rd S i ∧ rd S i ≤ 400
    · rw [if_pos (decide_eq_true h1)]
      refine ih k (i + 1) (by omega) (by omega) (by omega) (fun j j1 j2 => ?_)
      by_cases e' : j = i
      · rw [e']; exact h1
      · exact hS j j1 (by omega)
    · rw [if_neg (by rw [decide_eq_false h1]; decide)]
      refine ⟨false, rfl, ⟨fun q => (by cases q), fun q => ?_⟩⟩
      have := q.each i h0 (by omega)
      exact absurd ⟨by omega, this.2.2.2⟩ h1
theorem spec_validPanes_tells (S M : List Int) (hML : (M.length : Int) ≤ 4611686018427387904) (hSL : (S.length : Int) ≤ 4611686018427387904) (k : Nat) (hk : S.length + M.length + 10 ≤ k) : ∃ b, spec_validPanes.f k S M = some b ∧ (b = true ↔ VPN S M) := by
  unfold spec_validPanes.f
  exact spec_panes_loop0 hML hSL S.length k 0 (by omega) (by omega) hk (fun j a b => by omega)

theorem impl_sum_loop {S : List Int} (hb : Bd S (-1000000) 1000000) (hl : (S.length : Int) ≤ 1000000) (d : Nat) : ∀ (k : Nat) (i acc : Int), i + d = (S.length : Int) → 0 ≤ i → d + 1 ≤ k → -1000000 * i ≤ acc → acc ≤ 1000000 * i → impl_sum.l0 k acc S (S.length : Int) i = some (acc + sf S i) := by
  induction d with
  | zero =>
    intro k i acc hi h0 hk ha hb'
    obtain ⟨k, rfl⟩ : ∃ m, k = m + 1 := ⟨k - 1, by omega⟩
    rw [impl_sum.l0, if_neg (by omega), sf_end (by omega)]
    simp
  | succ d ih =>
    intro k i acc hi h0 hk ha hb'
    obtain ⟨k, rfl⟩ : ∃ m, k = m + 1 := ⟨k - 1, by omega⟩
    have h1 := hb i h0 (by omega)
    rw [impl_sum.l0, if_pos (by omega), if_pos h0, if_pos (by omega), w64 (n := acc + rd S i) (by omega) (by omega), w64 (n := i + 1) (by omega) (by omega), ih k (i + 1) (acc + rd S i) (by omega) (by omega) (by omega) (by omega) (by omega), sf_step h0 (by omega)]
    congr 1
    omega
theorem impl_sum_ok {S : List Int} (hb : Bd S (-1000000) 1000000) (hl : (S.length : Int) ≤ 1000000) (k : Nat) (hk : S.length + 1 ≤ k) : impl_sum.f k S = some S.sum := by
  unfold impl_sum.f
  have h := impl_sum_loop hb hl S.length k 0 0 (by omega) (by omega) hk (by omega) (by omega)
  rw [Int.zero_add, sf_zero] at h
  exact h

theorem rd_take {S : List Int} (m : Nat) {j : Int} (h0 : 0 ≤ j) (h1 : j < ((S.take m).length : Int)) : rd (S.take m) j = rd S j := by
  have h2 : j < (S.length : Int) := by rw [List.length_take] at h1; omega
  rw [rd_get h0 h1, rd_get h0 h2, List.getElem_take]
theorem bd_take {S : List Int} {a b : Int} (h : Bd S a b) (m : Nat) : Bd (S.take m) a b := by
  intro j h0 h1
  rw [rd_take m h0 h1]
  rw [List.length_take] at h1
  exact h j h0 (by omega)

theorem impl_SashAt_tells (S M : List Int) (n : Int) (hML : (M.length : Int) ≤ 1048576) (hSL : (S.length : Int) ≤ 1048576) (k : Nat) (hk : S.length + M.length + 20 ≤ k) :
    ∃ r, impl_SashAt.f k S M n = some r ∧ ((VPN S M ∧ 0 ≤ n ∧ n ≤ (S.length : Int) - 2) ∧ r = pre S (n + 1) ∨ ¬(VPN S M ∧ 0 ≤ n ∧ n ≤ (S.length : Int) - 2) ∧ r = -1) := by
  obtain ⟨b, e, hb⟩ := impl_ValidPanes_tells S M k (by omega)
  unfold impl_SashAt.f
  rw [e, Option.bind_some]
  cases b with
  | false =>
    rw [if_neg (by decide)]
    exact ⟨-1, rfl, .inr ⟨fun q => (by have := hb.2 q.1; cases this), rfl⟩⟩
  | true =>
    have hv := hb.1 rfl
    have h6 := hv.len6
    rw [if_pos rfl, within_eq, Option.bind_some, w64 (n := (S.length : Int) - 2) (by omega) (by omega)]
    by_cases h : 0 ≤ n ∧ n ≤ (S.length : Int) - 2
    · rw [if_pos (decide_eq_true h), w64 (n := n + 1) (by omega) (by omega), if_pos (by omega), if_pos (by omega), impl_sum_ok (bd_take (fun j a b => by have := hv.bdS j a b; omega) _) (by rw [List.length_take]; omega) k (by rw [List.length_take]; omega), Option.bind_some]
      exact ⟨_, rfl, .inl ⟨⟨hv, h⟩, rfl⟩⟩
    · rw [if_neg (by rw [decide_eq_false h]; decide)]
      exact ⟨-1, rfl, .inr ⟨fun q => h q.2, rfl⟩⟩

theorem rd_set {L : List Int} {i j v : Int} (i0 : 0 ≤ i) (i1 : i < (L.length : Int)) (j0 : 0 ≤ j) : rd (L.set i.toNat v) j = if j = i then v else rd L j := by
  unfold rd
  rw [List.getD_eq_getElem?_getD, List.getD_eq_getElem?_getD, List.getElem?_set]
  by_cases h : j = i
  · rw [if_pos h, if_pos (by omega), if_pos (by omega)]
    rfl
  · rw [if_neg h, if_neg (by omega)]
theorem set_same {L : List Int} {i : Int} (i0 : 0 ≤ i) (i1 : i < (L.length : Int)) : L.set i.toNat (rd L i) = L := by
  rw [rd_get i0 i1]
  exact List.set_getElem_self _
theorem pre_set {L : List Int} {i v : Int} (i0 : 0 ≤ i) (i1 : i < (L.length : Int)) (j : Nat) (hj : (j : Int) ≤ (L.length : Int)) : pre (L.set i.toNat v) (j : Int) = if i < (j : Int) then pre L (j : Int) + (v - rd L i) else pre L (j : Int) := by
  induction j with
  | zero =>
    rw [if_neg (by omega)]
    simp [pre]
  | succ j ih =>
    have ih := ih (by omega)
    rw [show ((j + 1 : Nat) : Int) = (j : Int) + 1 from by omega, pre_step (by omega) (by rw [List.length_set]; omega), pre_step (by omega) (by omega), ih, rd_set i0 i1 (by omega)]
    have hr : (j : Int) = i → rd L (j : Int) = rd L i := fun h => by rw [h]
    repeat' split
    all_goals first
      | omega
      | (have := hr (by assumption); omega)
/-- What 'taken' does: from place i on, d places in a direction, no pane below its least size. -/
def tk (M : List Int) (dir : Int) : Nat → Int → Int → List Int → List Int × Int
  | 0, _, left, L => (L, left)
  | d + 1, i, left, L => tk M dir d (i + dir) (left - min left (rd L i - rd M i)) (L.set i.toNat (rd L i - min left (rd L i - rd M i)))
abbrev okv (dir : Int) (d : Nat) (i n : Int) : Prop := (dir = 1 ∧ 0 ≤ i ∧ i + d ≤ n) ∨ (dir = -1 ∧ i < n ∧ 0 ≤ i + 1 - d)
def Iv (M L : List Int) : Prop := ∀ j : Int, 0 ≤ j → j < (L.length : Int) → 0 ≤ rd M j ∧ rd M j ≤ rd L j ∧ rd L j ≤ 100000
theorem Iv.set {M L : List Int} (h : Iv M L) {i t : Int} (i0 : 0 ≤ i) (i1 : i < (L.length : Int)) (h1 : rd M i ≤ t) (h2 : t ≤ 100000) : Iv M (L.set i.toNat t) := by
  intro j j0 j1
  rw [List.length_set] at j1
  rw [rd_set i0 i1 j0]
  have := h j j0 j1
  by_cases e : j = i
  · rw [if_pos e, e]
    rw [e] at this
    omega
  · rw [if_neg e]
    exact this
theorem tk_zero {M : List Int} {dir : Int} (d : Nat) : ∀ (i : Int) (L : List Int), okv dir d i (L.length : Int) → Iv M L → tk M dir d i 0 L = (L, 0) := by
  induction d with
  | zero => intro i L _ _; rfl
  | succ d ih =>
    intro i L ho hv
    have i0 : 0 ≤ i := by omega
    have i1 : i < (L.length : Int) := by omega
    have h1 := hv i i0 i1
    rw [tk, show min 0 (rd L i - rd M i) = 0 from by omega, Int.sub_zero, Int.sub_zero, set_same i0 i1]
    exact ih (i + dir) L (by omega) hv
structure TK (M : List Int) (dir : Int) (d : Nat) (i left : Int) (L : List Int) (R : List Int × Int) : Prop where
  len : R.1.length = L.length
  lo : 0 ≤ R.2
  hi : R.2 ≤ left
  each : ∀ j : Int, 0 ≤ j → j < (L.length : Int) → rd M j ≤ rd R.1 j ∧ rd R.1 j ≤ rd L j
  far : ∀ j : Int, 0 ≤ j → j < (L.length : Int) → (dir = 1 ∧ j < i ∨ dir = -1 ∧ i < j) → rd R.1 j = rd L j
  full : 0 < R.2 → ∀ j : Int, 0 ≤ j → j < (L.length : Int) → (dir = 1 ∧ i ≤ j ∧ j < i + d ∨ dir = -1 ∧ j ≤ i ∧ i - d < j) → rd R.1 j = rd M j
  pa : ∀ j : Nat, (j : Int) ≤ (L.length : Int) → (dir = 1 ∧ (j : Int) ≤ i ∨ dir = -1 ∧ (j : Int) ≤ i + 1 - d) → pre R.1 (j : Int) = pre L (j : Int)
  pb : ∀ j : Nat, (j : Int) ≤ (L.length : Int) → (dir = 1 ∧ i + d ≤ (j : Int) ∨ dir = -1 ∧ i + 1 ≤ (j : Int)) → pre R.1 (j : Int) = pre L (j : Int) - (left - R.2)
theorem tk_tells {M : List Int} {dir : Int} (d : Nat) : ∀ (i left : Int) (L : List Int), okv dir d i (L.length : Int) → Iv M L → 0 ≤ left → TK M dir d i left L (tk M dir d i left L) := by
  induction d with
  | zero =>
    intro i left L ho hv hl
    refine ⟨rfl, hl, Int.le_refl _, fun j j0 j1 => ?_, fun j j0 j1 _ => rfl, fun _ j j0 j1 q => ?_, fun j j1 _ => rfl, fun j j1 _ => ?_⟩
    · have := hv j j0 j1
      exact ⟨this.2.1, Int.le_refl _⟩
    · exfalso; omega
    · show pre L (j : Int) = pre L (j : Int) - (left - left)
      omega
  | succ d ih =>
    intro i left L ho hv hl
    have i0 : 0 ≤ i := by omega
    have i1 : i < (L.length : Int) := by omega
    have h1 := hv i i0 i1
    rw [tk]
    obtain ⟨t, ht⟩ : ∃ t, min left (rd L i - rd M i) = t := ⟨_, rfl⟩
    rw [ht]
    have T := ih (i + dir) (left - t) (L.set i.toNat (rd L i - t)) (by rw [List.length_set]; omega) (hv.set i0 i1 (by omega) (by omega)) (by omega)
    generalize tk M dir d (i + dir) (left - t) (L.set i.toNat (rd L i - t)) = R at T
    obtain ⟨a1, a2, a3, a4, a5, a6, a7, a8⟩ := T
    rw [List.length_set] at a1 a4 a5 a6 a7 a8
    have hs : ∀ j : Int, 0 ≤ j → rd (L.set i.toNat (rd L i - t)) j = if j = i then rd L i - t else rd L j := fun j j0 => rd_set i0 i1 j0
    refine ⟨a1, a2, by omega, fun j j0 j1 => ?_, fun j j0 j1 q => ?_, fun q j j0 j1 p => ?_, fun j j1 q => ?_, fun j j1 q => ?_⟩
    · have := a4 j j0 j1
      rw [hs j j0] at this
      by_cases e : j = i
      · rw [if_pos e] at this
        rw [e] at this ⊢
        omega
      · rw [if_neg e] at this
        exact this
    · have := a5 j j0 j1 (by omega)
      rw [hs j j0, if_neg (by omega)] at this
      exact this
    · by_cases e : j = i
      · have := a4 j j0 j1
        rw [hs j j0, if_pos e] at this
        rw [e] at this ⊢
        omega
      · exact a6 q j j0 j1 (by omega)
    · rw [a7 j j1 (by omega), pre_set i0 i1 j j1, if_neg (by omega)]
    · rw [a8 j j1 (by omega), pre_set i0 i1 j j1, if_pos (by omega)]
      omega
theorem tk_set {M : List Int} {dir : Int} (s v : Int) (s0 : 0 ≤ s) (d : Nat) : ∀ (i left : Int) (L : List Int), okv dir d i (L.length : Int) → s < (L.length : Int) → (dir = 1 ∧ s < i ∨ dir = -1 ∧ i < s) → tk M dir d i left (L.set s.toNat v) = ((tk M dir d i left L).1.set s.toNat v, (tk M dir d i left L).2) := by
  induction d with
  | zero => intro i left L _ _ _; rfl
  | succ d ih =>
    intro i left L ho s1 hs
    have i0 : 0 ≤ i := by omega
    rw [tk, tk, rd_set s0 s1 i0, if_neg (by omega), List.set_comm _ _ (by omega)]
    exact ih (i + dir) _ _ (by rw [List.length_set]; omega) (by rw [List.length_set]; omega) (by omega)

theorem spec_taken_loop {S M : List Int} {dir : Int} (d : Nat) : ∀ (k : Nat) (i left : Int) (L : List Int), (dir = 1 ∧ 0 ≤ i ∧ i + d = (L.length : Int) ∨ dir = -1 ∧ i < (L.length : Int) ∧ i + 1 = d) → (M.length : Int) = (L.length : Int) → (L.length : Int) ≤ 6 → Iv M L → 0 ≤ left → left ≤ 1000 → d + 1 ≤ k → spec_taken.l0 k dir left L i S M = some (tk M dir d i left L) := by
  induction d with
  | zero =>
    intro k i left L ho hM h6 hv hl hl' hk
    obtain ⟨k, rfl⟩ : ∃ m, k = m + 1 := ⟨k - 1, by omega⟩
    rw [spec_taken.l0]
    rcases ho with ⟨_, h1, h2⟩ | ⟨_, h1, h2⟩
    · rw [if_pos (by omega), if_neg (by omega)]
      rfl
    · rw [if_neg (by omega)]
      rfl
  | succ d ih =>
    intro k i left L ho hM h6 hv hl hl' hk
    obtain ⟨k, rfl⟩ : ∃ m, k = m + 1 := ⟨k - 1, by omega⟩
    have i0 : 0 ≤ i := by omega
    have i1 : i < (L.length : Int) := by omega
    have h1 := hv i i0 i1
    rw [spec_taken.l0, if_pos (by omega), if_pos i1]
    by_cases hz : left > 0
    · rw [if_pos hz, if_pos i0, if_pos (by omega), w64 (n := rd L i - rd M i) (by omega) (by omega), mn_eq, w64 (n := left - min left (rd L i - rd M i)) (by omega) (by omega), w64 (n := rd L i - min left (rd L i - rd M i)) (by omega) (by omega), w64 (n := i + dir) (by omega) (by omega), tk]
      exact ih k (i + dir) _ _ (by rw [List.length_set]; omega) (by rw [List.length_set]; omega) (by rw [List.length_set]; omega) (hv.set i0 i1 (by omega) (by omega)) (by omega) (by omega) (by omega)
    · rw [if_neg hz]
      have e : left = 0 := by omega
      rw [e, tk_zero (d + 1) i L (by omega) hv]
theorem copyInts_ok {l : List Int} (h : (l.length : Int) ≤ 1048576) : spec_copyInts.f l = some l := by
  unfold spec_copyInts.f
  rw [Option.bind_some, if_pos (by simp; omega)]
  rfl
theorem clone_ok {l : List Int} (h : (l.length : Int) ≤ 1048576) : slices_Clone_int_int.f l = some l := by
  unfold slices_Clone_int_int.f
  rw [Option.bind_some, if_pos (by simp; omega)]
  rfl
theorem copied_ok {S M : List Int} (h : (S.length : Int) ≤ 1048576) (h' : (M.length : Int) ≤ 1048576) : impl_Panes_copied.f S M = some (S, M) := by
  unfold impl_Panes_copied.f
  rw [clone_ok h, clone_ok h']
  rfl
theorem spec_taken_ok {S M : List Int} {dir : Int} (d : Nat) (k : Nat) (i left : Int) (ho : dir = 1 ∧ 0 ≤ i ∧ i + d = (S.length : Int) ∨ dir = -1 ∧ i < (S.length : Int) ∧ i + 1 = d) (hM : (M.length : Int) = (S.length : Int)) (h6 : (S.length : Int) ≤ 6) (hv : Iv M S) (hl : 0 ≤ left) (hl' : left ≤ 1000) (hk : d + 1 ≤ k) : spec_taken.f k S M i dir left = some (tk M dir d i left S) := by
  unfold spec_taken.f
  rw [copyInts_ok (by omega), Option.bind_some]
  exact spec_taken_loop d k i left S ho hM h6 hv hl hl' hk
theorem less_ok {L M : List Int} {i left : Int} (hM : (M.length : Int) = (L.length : Int)) (hv : Iv M L) (i0 : 0 ≤ i) (i1 : i < (L.length : Int)) (hl : 0 ≤ left) (hl' : left ≤ 1000) : impl_Panes_less.f L M i left = some (min left (rd L i - rd M i), L.set i.toNat (rd L i - min left (rd L i - rd M i))) := by
  have h1 := hv i i0 i1
  unfold impl_Panes_less.f
  rw [if_pos i0, if_pos i1, if_pos (by omega), w64 (n := rd L i - rd M i) (by omega) (by omega), mn_eq, w64 (n := rd L i - min left (rd L i - rd M i)) (by omega) (by omega)]
theorem vpn_iv {S M : List Int} (h : VPN S M) : Iv M S := fun j j0 j1 => by
  have := h.each j j0 j1
  omega
theorem rd_le_sum {S : List Int} (h : Bd S 0 1000000) {j : Int} (j0 : 0 ≤ j) (j1 : j < (S.length : Int)) : rd S j ≤ S.sum := by
  have p1 := pre_le h (i := j + 1) (j := (S.length : Int)) (by omega) (by omega) (by omega)
  have p2 := pre_nonneg h (i := j) j0 (by omega)
  rw [pre_end (i := (S.length : Int)) (by omega), pre_step j0 j1] at p1
  omega

theorem impl_drag_l0 {M : List Int} {s : Int} (s0 : 0 ≤ s) (d : Nat) : ∀ (k : Nat) (i left : Int) (L : List Int), s < i → i + d = (L.length : Int) → s < (L.length : Int) → (M.length : Int) = (L.length : Int) → (L.length : Int) ≤ 6 → Iv M L → 0 ≤ left → left ≤ 1000 → rd L s + left ≤ 5000 → d + 1 ≤ k →
    impl_DragSash.l0 k s left i L M = some ((tk M 1 d i left L).1.set s.toNat (rd (tk M 1 d i left L).1 s + (left - (tk M 1 d i left L).2)), M) := by
  induction d with
  | zero =>
    intro k i left L hs hi s1 hM h6 hv hl hl' hb hk
    obtain ⟨k, rfl⟩ : ∃ m, k = m + 1 := ⟨k - 1, by omega⟩
    rw [impl_DragSash.l0, if_neg (by omega), tk]
    show some (L, M) = some (L.set s.toNat (rd L s + (left - left)), M)
    rw [Int.sub_self, Int.add_zero, set_same s0 s1]
  | succ d ih =>
    intro k i left L hs hi s1 hM h6 hv hl hl' hb hk
    obtain ⟨k, rfl⟩ : ∃ m, k = m + 1 := ⟨k - 1, by omega⟩
    have i0 : 0 ≤ i := by omega
    have i1 : i < (L.length : Int) := by omega
    have h1 := hv i i0 i1
    have h2 := hv s s0 s1
    rw [impl_DragSash.l0, if_pos i1, less_ok hM hv i0 i1 hl hl', Option.bind_some]
    dsimp only
    rw [if_pos s0, if_pos s1, tk]
    obtain ⟨t, ht⟩ : ∃ t, min left (rd L i - rd M i) = t := ⟨_, rfl⟩
    rw [ht]
    have e1 : rd (L.set i.toNat (rd L i - t)) s = rd L s := by rw [rd_set i0 i1 s0, if_neg (by omega)]
    obtain ⟨L1, hL1⟩ : ∃ L1, L.set i.toNat (rd L i - t) = L1 := ⟨_, rfl⟩
    have n1 : L1.length = L.length := by rw [← hL1, List.length_set]
    have v1 : Iv M L1 := by rw [← hL1]; exact hv.set i0 i1 (by omega) (by omega)
    rw [hL1] at e1 ⊢
    rw [w64 (n := left - t) (by omega) (by omega), w64 (n := i + 1) (by omega) (by omega), w64 (n := rd L1 s + t) (by omega) (by omega)]
    have T := tk_tells (M := M) (dir := 1) d (i + 1) (left - t) L1 (by omega) v1 (by omega)
    rw [ih k (i + 1) (left - t) _ (by omega) (by rw [List.length_set]; omega) (by rw [List.length_set]; omega) (by rw [List.length_set]; omega) (by rw [List.length_set]; omega) (v1.set s0 (by omega) (by omega) (by omega)) (by omega) (by omega) (by rw [rd_set s0 (by omega) s0, if_pos rfl]; omega) (by omega)]
    rw [tk_set s _ s0 d (i + 1) (left - t) L1 (by omega) (by omega) (by omega)]
    have e2 := T.far s s0 (by omega) (by omega)
    have n2 := T.len
    generalize tk M 1 d (i + 1) (left - t) L1 = R at e2 n2
    dsimp only
    rw [rd_set s0 (by omega) s0, if_pos rfl, List.set_set, e2]
    congr 3
    omega
theorem impl_drag_l1 {M : List Int} {s : Int} (d : Nat) : ∀ (k : Nat) (i left : Int) (L : List Int), i ≤ s → i + 1 = d → 0 ≤ s + 1 → s + 1 < (L.length : Int) → (M.length : Int) = (L.length : Int) → (L.length : Int) ≤ 6 → Iv M L → 0 ≤ left → left ≤ 1000 → rd L (s + 1) + left ≤ 5000 → d + 1 ≤ k →
    impl_DragSash.l1 k s left i L M = some ((tk M (-1) d i left L).1.set (s + 1).toNat (rd (tk M (-1) d i left L).1 (s + 1) + (left - (tk M (-1) d i left L).2)), M) := by
  induction d with
  | zero =>
    intro k i left L hs hi s0 s1 hM h6 hv hl hl' hb hk
    obtain ⟨k, rfl⟩ : ∃ m, k = m + 1 := ⟨k - 1, by omega⟩
    rw [impl_DragSash.l1, if_neg (by omega), tk]
    show some (L, M) = some (L.set (s + 1).toNat (rd L (s + 1) + (left - left)), M)
    rw [Int.sub_self, Int.add_zero, set_same s0 s1]
  | succ d ih =>
    intro k i left L hs hi s0 s1 hM h6 hv hl hl' hb hk
    obtain ⟨k, rfl⟩ : ∃ m, k = m + 1 := ⟨k - 1, by omega⟩
    have i0 : 0 ≤ i := by omega
    have i1 : i < (L.length : Int) := by omega
    have h1 := hv i i0 i1
    have h2 := hv (s + 1) s0 s1
    rw [impl_DragSash.l1, if_pos (by omega), less_ok hM hv i0 i1 hl hl', Option.bind_some]
    dsimp only
    rw [w64 (n := s + 1) (by omega) (by omega), if_pos s0, if_pos s1, tk]
    obtain ⟨t, ht⟩ : ∃ t, min left (rd L i - rd M i) = t := ⟨_, rfl⟩
    rw [ht]
    have e1 : rd (L.set i.toNat (rd L i - t)) (s + 1) = rd L (s + 1) := by rw [rd_set i0 i1 s0, if_neg (by omega)]
    obtain ⟨L1, hL1⟩ : ∃ L1, L.set i.toNat (rd L i - t) = L1 := ⟨_, rfl⟩
    have n1 : L1.length = L.length := by rw [← hL1, List.length_set]
    have v1 : Iv M L1 := by rw [← hL1]; exact hv.set i0 i1 (by omega) (by omega)
    rw [hL1] at e1 ⊢
    rw [w64 (n := left - t) (by omega) (by omega), w64 (n := i - 1) (by omega) (by omega), w64 (n := rd L1 (s + 1) + t) (by omega) (by omega), show i - 1 = i + -1 from by omega]
    have T := tk_tells (M := M) (dir := -1) d (i + -1) (left - t) L1 (by omega) v1 (by omega)
    rw [ih k (i + -1) (left - t) _ (by omega) (by omega) s0 (by rw [List.length_set]; omega) (by rw [List.length_set]; omega) (by rw [List.length_set]; omega) (v1.set s0 (by omega) (by omega) (by omega)) (by omega) (by omega) (by rw [rd_set s0 (by omega) s0, if_pos rfl]; omega) (by omega)]
    rw [tk_set (s + 1) _ s0 d (i + -1) (left - t) L1 (by omega) (by omega) (by omega)]
    have e2 := T.far (s + 1) s0 (by omega) (by omega)
    have n2 := T.len
    generalize tk M (-1) d (i + -1) (left - t) L1 = R at e2 n2
    dsimp only
    rw [rd_set s0 (by omega) s0, if_pos rfl, List.set_set, e2]
    congr 3
    omega
/-- A drag that goes well. -/
structure DG (S M : List Int) (s n : Int) (A : List Int) : Prop where
  len : A.length = S.length
  each : ∀ j : Int, 0 ≤ j → j < (S.length : Int) → rd M j ≤ rd A j ∧ rd A j ≤ 2000
  sum : A.sum = S.sum
  up : 0 ≤ n → pre S (s + 1) ≤ pre A (s + 1) ∧ pre A (s + 1) ≤ pre S (s + 1) + n
  down : n < 0 → pre A (s + 1) ≤ pre S (s + 1) ∧ pre S (s + 1) + n ≤ pre A (s + 1)
  far : pre A (s + 1) ≠ pre S (s + 1) + n → n ≠ 0 ∧ ∀ j : Int, 0 ≤ j → j < (S.length : Int) → (0 < n ∧ s < j ∨ n < 0 ∧ j ≤ s) → rd A j = rd M j
theorem sum_pre' (A : List Int) : A.sum = pre A (A.length : Int) := (pre_end (Int.le_refl _)).symm
theorem drag_tells (S M : List Int) (s n : Int) (hML : (M.length : Int) ≤ 1048576) (hSL : (S.length : Int) ≤ 1048576) (k : Nat) (hk : S.length + M.length + 30 ≤ k) :
    ∃ A B : List Int, spec_DragSash.f k S M s n = some (A, B) ∧ impl_DragSash.f k S M s n = some (A, B) ∧ A.length ≤ 6 ∧ B.length ≤ 6 ∧
      ((VPN S M ∧ (0 ≤ s ∧ s ≤ (S.length : Int) - 2) ∧ -400 ≤ n ∧ n ≤ 400) ∧ B = M ∧ DG S M s n A ∨ A = [] ∧ B = []) := by
  obtain ⟨b, e1, h1⟩ := spec_validPanes_tells S M (by omega) (by omega) k (by omega)
  obtain ⟨b', e2, h2⟩ := impl_ValidPanes_tells S M k (by omega)
  obtain rfl := iff_bool h1 h2
  obtain ⟨k, rfl⟩ : ∃ m, k = m + 1 := ⟨k - 1, by omega⟩
  unfold spec_DragSash.f impl_DragSash.f
  rw [e1, e2, Option.bind_some, Option.bind_some]
  have bad : impl_DragSash.j0 (k + 1) s n true S M = some ([], []) := by rw [impl_DragSash.j0, if_pos rfl]
  cases b with
  | false =>
    rw [if_neg (by decide), if_neg (by decide), bad]
    exact ⟨[], [], rfl, rfl, by simp, by simp, .inr ⟨rfl, rfl⟩⟩
  | true =>
    have hv := h1.1 rfl
    have l1 := hv.len1
    have l6 := hv.len6
    have lM := hv.lenM
    rw [if_pos rfl, if_pos rfl, inrange_eq, within_eq, Option.bind_some, Option.bind_some, w64 (n := (S.length : Int) - 2) (by omega) (by omega)]
    by_cases hs : 0 ≤ s ∧ s ≤ (S.length : Int) - 2
    · rw [decide_eq_true hs, if_pos rfl, if_pos rfl, inrange_eq, within_eq, Option.bind_some, Option.bind_some]
      by_cases hn : -400 ≤ n ∧ n ≤ 400
      · rw [decide_eq_true hn, if_pos rfl, impl_DragSash.j0, if_neg (by decide), copied_ok (by omega) (by omega), Option.bind_some]
        dsimp only
        unfold spec_dragged.f
        have iv := vpn_iv hv
        have bs := hv.bdS
        obtain ⟨m, hm⟩ : ∃ m : Nat, (m : Int) = s + 1 := ⟨(s + 1).toNat, by omega⟩
        by_cases hp : n ≥ 0
        · obtain ⟨d, hd⟩ : ∃ d : Nat, s + 1 + d = (S.length : Int) := ⟨((S.length : Int) - (s + 1)).toNat, by omega⟩
          have T := tk_tells (M := M) (dir := 1) d (s + 1) n S (by omega) iv hp
          have b1 := bs s (by omega) (by omega)
          rw [if_pos hp, if_pos hp, w64 (n := s + 1) (by omega) (by omega), spec_taken_ok d (k + 1) (s + 1) n (by omega) lM l6 iv hp (by omega) (by omega), Option.bind_some, impl_drag_l0 (by omega) d k (s + 1) n S (by omega) hd (by omega) lM l6 iv hp (by omega) (by omega) (by omega)]
          generalize tk M 1 d (s + 1) n S = R at T
          obtain ⟨a1, a2, a3, a4, a5, a6, a7, a8⟩ := T
          have b2 := a4 s (by omega) (by omega)
          have b3 := iv s (by omega) (by omega)
          rw [if_pos (by omega), if_pos (by omega), copyInts_ok (by omega), Option.bind_some, Option.bind_some, w64 (n := rd R.1 s + n) (by omega) (by omega), w64 (n := rd R.1 s + n - R.2) (by omega) (by omega), show rd R.1 s + (n - R.2) = rd R.1 s + n - R.2 from by omega]
          have p1 : pre (R.1.set s.toNat (rd R.1 s + n - R.2)) (s + 1) = pre S (s + 1) + n - R.2 := by
            rw [← hm, pre_set (by omega) (by omega) m (by omega), if_pos (by omega), a7 m (by omega) (by omega)]
            omega
          refine ⟨_, _, rfl, rfl, by rw [List.length_set]; omega, by show M.length ≤ 6; omega, .inl ⟨⟨hv, hs, hn⟩, rfl, by rw [List.length_set]; exact a1, fun j j0 j1 => ?_, ?_, fun _ => by rw [p1]; omega, fun q => absurd q (by omega), fun q => ?_⟩⟩
          · rw [rd_set (by omega) (by omega) j0]
            have c1 := a4 j j0 j1
            have c2 := bs j j0 j1
            by_cases e : j = s
            · rw [if_pos e, e]
              omega
            · rw [if_neg e]
              omega
          · rw [sum_pre', List.length_set, pre_set (by omega) (by omega) R.1.length (by omega), if_pos (by omega), a1, a8 S.length (by omega) (by omega), sum_pre' S]
            omega
          · rw [p1] at q
            refine ⟨by omega, fun j j0 j1 c => ?_⟩
            rw [rd_set (by omega) (by omega) j0, if_neg (by omega)]
            exact a6 (by omega) j j0 j1 (by omega)
        · obtain ⟨d, hd⟩ : ∃ d : Nat, s + 1 = (d : Int) := ⟨(s + 1).toNat, by omega⟩
          have T := tk_tells (M := M) (dir := -1) d s (-n) S (by omega) iv (by omega)
          have b1 := bs (s + 1) (by omega) (by omega)
          rw [if_neg hp, if_neg hp, w64 (n := s + 1) (by omega) (by omega), w64 (n := -n) (by omega) (by omega), spec_taken_ok d (k + 1) s (-n) (by omega) lM l6 iv (by omega) (by omega) (by omega), Option.bind_some, impl_drag_l1 d k s (-n) S (by omega) hd (by omega) (by omega) lM l6 iv (by omega) (by omega) (by omega) (by omega)]
          generalize tk M (-1) d s (-n) S = R at T
          obtain ⟨a1, a2, a3, a4, a5, a6, a7, a8⟩ := T
          have b2 := a4 (s + 1) (by omega) (by omega)
          have b3 := iv (s + 1) (by omega) (by omega)
          rw [if_pos (by omega), if_pos (by omega), copyInts_ok (by omega), Option.bind_some, Option.bind_some, w64 (n := rd R.1 (s + 1) - n) (by omega) (by omega), w64 (n := rd R.1 (s + 1) - n - R.2) (by omega) (by omega), show rd R.1 (s + 1) + (-n - R.2) = rd R.1 (s + 1) - n - R.2 from by omega]
          have p1 : pre (R.1.set (s + 1).toNat (rd R.1 (s + 1) - n - R.2)) (s + 1) = pre S (s + 1) + n + R.2 := by
            conv => lhs; rw [show pre (R.1.set (s + 1).toNat (rd R.1 (s + 1) - n - R.2)) (s + 1) = pre (R.1.set (s + 1).toNat (rd R.1 (s + 1) - n - R.2)) (m : Int) from by rw [hm]]
            rw [pre_set (by omega) (by omega) m (by omega), if_neg (by omega), a8 m (by omega) (by omega), hm]
            omega
          refine ⟨_, _, rfl, rfl, by rw [List.length_set]; omega, by show M.length ≤ 6; omega, .inl ⟨⟨hv, hs, hn⟩, rfl, by rw [List.length_set]; exact a1, fun j j0 j1 => ?_, ?_, fun q => absurd q (by omega), fun _ => by rw [p1]; omega, fun q => ?_⟩⟩
          · rw [rd_set (by omega) (by omega) j0]
            have c1 := a4 j j0 j1
            have c2 := bs j j0 j1
            by_cases e : j = s + 1
            · rw [if_pos e, e]
              omega
            · rw [if_neg e]
              omega
          · rw [sum_pre', List.length_set, pre_set (by omega) (by omega) R.1.length (by omega), if_pos (by omega), a1, a8 S.length (by omega) (by omega), sum_pre' S]
            omega
          · rw [p1] at q
            refine ⟨by omega, fun j j0 j1 c => ?_⟩
            rw [rd_set (by omega) (by omega) j0, if_neg (by omega)]
            exact a6 (by omega) j j0 j1 (by omega)
      · rw [decide_eq_false hn, if_neg (by decide), show (!false) = true from rfl, bad]
        exact ⟨[], [], rfl, rfl, by simp, by simp, .inr ⟨rfl, rfl⟩⟩
    · rw [decide_eq_false hs, if_neg (by decide), if_neg (by decide), bad]
      exact ⟨[], [], rfl, rfl, by simp, by simp, .inr ⟨rfl, rfl⟩⟩

theorem DG.vpn_ {S M A : List Int} {s n : Int} (h : DG S M s n A) (hv : VPN S M) : VPN A M := by
  have hl := h.len
  have l1 := hv.len1
  have l6 := hv.len6
  have lM := hv.lenM
  have hs := h.sum
  have hS := hv.sum
  refine ⟨by omega, by omega, by omega, fun j j0 j1 => ?_, by omega⟩
  have e1 := hv.each j j0 (by omega)
  have e2 := h.each j j0 (by omega)
  have hb : Bd A 0 1000000 := fun i a b => by
    have q1 := hv.each i a (by omega)
    have q2 := h.each i a (by omega)
    omega
  have := rd_le_sum hb j0 j1
  omega

theorem equalInts_loop {l : List Int} (hl : (l.length : Int) ≤ 1048576) (d : Nat) : ∀ (k : Nat) (i : Int), i + d = (l.length : Int) → 0 ≤ i → d + 1 ≤ k → laws_equalInts.l0 k l l i = some true := by
  induction d with
  | zero =>
    intro k i hi h0 hk
    obtain ⟨k, rfl⟩ : ∃ m, k = m + 1 := ⟨k - 1, by omega⟩
    rw [laws_equalInts.l0, if_neg (by omega)]
  | succ d ih =>
    intro k i hi h0 hk
    obtain ⟨k, rfl⟩ : ∃ m, k = m + 1 := ⟨k - 1, by omega⟩
    rw [laws_equalInts.l0, if_pos (by omega), if_pos h0, if_pos (by omega), if_pos rfl, w64 (n := i + 1) (by omega) (by omega)]
    exact ih k (i + 1) (by omega) (by omega) (by omega)
theorem equalInts_ok {l : List Int} (hl : (l.length : Int) ≤ 1048576) (k : Nat) (hk : l.length + 1 ≤ k) : laws_equalInts.f k l l = some true := by
  unfold laws_equalInts.f
  rw [if_pos rfl]
  exact equalInts_loop hl l.length k 0 (by omega) (by omega) hk
theorem equalPanes_ok {S M : List Int} (h : (S.length : Int) + (M.length : Int) ≤ 1048576) (k : Nat) (hk : S.length + M.length + 1 ≤ k) : laws_equalPanes.f k S M S M = some true := by
  unfold laws_equalPanes.f
  rw [equalInts_ok (by omega) k (by omega), equalInts_ok (by omega) k (by omega)]
  rfl

theorem newReader_ok (l : List Int) (hl : Bytes l) : ∃ s, spec_newReader.f l = some (s, 0) ∧ Bytes s ∧ s.length ≤ 2000 := by
  unfold spec_newReader.f
  by_cases h : (l.length : Int) > 2000
  · rw [if_pos h, if_pos (by omega)]
    exact ⟨_, rfl, fun x hx => hl x (List.mem_of_mem_take hx), List.length_take_le _ _⟩
  · rw [if_neg h]
    exact ⟨l, rfl, hl, by omega⟩
theorem pick_ok (k : Nat) {s : List Int} {p : Int} (n : Int) (hs : Bytes s) (hl : s.length ≤ 2000) (p0 : 0 ≤ p) (p1 : p ≤ 1000000) :
    ∃ v, spec_reader_pick.f (k + 1) s p n = some (v, p + 1) ∧ 0 ≤ v ∧ (1 ≤ n → v < n) ∧ (n < 1 → v = 0) := by
  unfold spec_reader_pick.f
  rw [w64 (n := p + 1) (by omega) (by omega)]
  by_cases h1 : n < 1
  · rw [if_pos h1, spec_reader_pick.j0, if_pos rfl]
    exact ⟨0, rfl, by omega, by omega, fun _ => rfl⟩
  · rw [if_neg h1, spec_reader_pick.j0]
    by_cases h2 : (s.length : Int) = 0
    · rw [if_pos (by simp only [h2]; rfl)]
      exact ⟨0, rfl, by omega, by omega, fun _ => rfl⟩
    · rw [if_neg (by rw [beq_iff_eq]; exact h2), w64 (n := p + 1 - 1) (by omega) (by omega), show p + 1 - 1 = p from by omega]
      by_cases h3 : p < (s.length : Int)
      · have hr := rd_byte hs p
        rw [if_pos h3, if_pos p0, if_neg (by omega), w64 (n := rd s p) (by omega) (by omega)]
        have ht := tmod_lt hr.1 (show 1 ≤ n by omega)
        exact ⟨_, rfl, ht.1, fun _ => ht.2, fun h => by omega⟩
      · have hlen : 1 ≤ (s.length : Int) := by omega
        have q1 := tmod_lt p0 hlen
        have q2 := tmod_lt (a := p * 7 + 3) (by omega) hlen
        have qd : 0 ≤ Int.tdiv p (s.length : Int) ∧ Int.tdiv p (s.length : Int) ≤ p := by
          rw [td2 p0]
          exact ⟨Int.ediv_nonneg p0 (by omega), Int.ediv_le_self _ p0⟩
        rw [if_neg h3, if_neg h2, if_pos q1.1, if_pos q1.2, w64 (n := p * 7) (by omega) (by omega), w64 (n := p * 7 + 3) (by omega) (by omega), if_pos q2.1, if_pos q2.2, if_neg (by omega)]
        have ra := rd_byte hs (Int.tmod p (s.length : Int))
        have rb := rd_byte hs (Int.tmod (p * 7 + 3) (s.length : Int))
        generalize rd s (Int.tmod p (s.length : Int)) = a at *
        generalize rd s (Int.tmod (p * 7 + 3) (s.length : Int)) = b at *
        generalize Int.tdiv p (s.length : Int) = d at *
        rw [w64 (n := a) (by omega) (by omega), w64 (n := b) (by omega) (by omega), w64 (n := a * 131) (by omega) (by omega), w64 (n := b * 1117) (by omega) (by omega), w64 (n := a * 131 + b * 1117) (by omega) (by omega), w64 (n := p * 29) (by omega) (by omega), w64 (n := a * 131 + b * 1117 + p * 29) (by omega) (by omega), w64 (n := d) (by omega) (by omega), w64 (n := d * 53) (by omega) (by omega), w64 (n := a * 131 + b * 1117 + p * 29 + d * 53) (by omega) (by omega)]
        have hx : 0 ≤ a * 131 + b * 1117 + p * 29 + d * 53 ∧ a * 131 + b * 1117 + p * 29 + d * 53 ≤ 1000000000 := by omega
        generalize a * 131 + b * 1117 + p * 29 + d * 53 = x at *
        rw [td2 hx.1, w64 (n := x / 64) (by omega) (by omega)]
        have ht := tmod_lt (xor_range (a := x) (b := x / 64) (by omega) (by omega) (by omega) (by omega)) (show 1 ≤ n by omega)
        exact ⟨_, rfl, ht.1, fun _ => ht.2, fun h => by omega⟩

theorem one_ok (k : Nat) {s : List Int} {p : Int} (L : List Int) (hL : 1 ≤ (L.length : Int)) (hs : Bytes s) (hl : s.length ≤ 2000) (p0 : 0 ≤ p) (p1 : p ≤ 1000000) :
    ∃ v, spec_reader_one.f (k + 1) s p L = some (v, p + 1) ∧ v ∈ L := by
  obtain ⟨v, e, v0, v1, _⟩ := pick_ok k (L.length : Int) hs hl p0 p1
  unfold spec_reader_one.f
  rw [e, Option.bind_some]
  simp only
  rw [if_pos v0, if_pos (v1 hL)]
  exact ⟨_, rfl, rd_mem v0 (v1 hL)⟩

theorem pick_bind {β : Type} {P : β → Prop} {k : Nat} {s : List Int} {p n : Int} {f : Int × Int → Option β} (hs : Bytes s) (hl : s.length ≤ 2000) (p0 : 0 ≤ p) (p1 : p ≤ 1000000)
    (h : ∀ v, 0 ≤ v → (1 ≤ n → v < n) → ∃ r, f (v, p + 1) = some r ∧ P r) : ∃ r, (spec_reader_pick.f (k + 1) s p n).bind f = some r ∧ P r := by
  obtain ⟨v, e, v0, v1, _⟩ := pick_ok k n hs hl p0 p1
  rw [e, Option.bind_some]
  exact h v v0 v1

theorem one_bind {β : Type} {P : β → Prop} {k : Nat} {s : List Int} {p : Int} {L : List Int} {f : Int × Int → Option β} (hs : Bytes s) (hl : s.length ≤ 2000) (p0 : 0 ≤ p) (p1 : p ≤ 1000000) (hL : 1 ≤ (L.length : Int))
    (h : ∀ v, v ∈ L → ∃ r, f (v, p + 1) = some r ∧ P r) : ∃ r, (spec_reader_one.f (k + 1) s p L).bind f = some r ∧ P r := by
  obtain ⟨v, e, hv⟩ := one_ok k L hL hs hl p0 p1
  rw [e, Option.bind_some]
  exact h v hv

theorem panes_loop {s : List Int} (hs : Bytes s) (hl : s.length ≤ 2000) (d : Nat) : ∀ (k : Nat) (x p : Int) (A B : List Int), x = d → A.length = B.length → A.length + d ≤ 6 → 1 ≤ A.length + d → d + 3 ≤ k → 0 ≤ p → p + 2 * (d : Int) ≤ 890000 →
    ∃ r, spec_somePanes.l0 k x s p A B = some r ∧ (r.1.length ≤ 6 ∧ r.2.1.length ≤ 6) ∧ 0 ≤ r.2.2 ∧ r.2.2 ≤ p + 2 * d + 10 := by
  induction d with
  | zero =>
    intro k x p A B hx hAB h6 h1 hk p0 p1
    obtain ⟨k, rfl⟩ : ∃ m, k = m + 1 + 1 := ⟨k - 2, by omega⟩
    rw [spec_somePanes.l0, if_neg (by omega)]
    refine pick_bind hs hl p0 (by omega) (fun v _ _ => ?_)
    dsimp only
    split
    · refine one_bind hs hl (by omega) (by omega) (by simp) (fun v _ => ?_)
      rw [if_pos (by omega)]
      refine ⟨_, rfl, ⟨?_, ?_⟩, by dsimp only; omega, by dsimp only; omega⟩
      · simp; omega
      · dsimp only; omega
    · split
      · refine one_bind hs hl (by omega) (by omega) (by simp) (fun v _ => ?_)
        rw [if_pos (by omega)]
        refine ⟨_, rfl, ⟨?_, ?_⟩, by dsimp only; omega, by dsimp only; omega⟩
        · dsimp only; omega
        · simp; omega
      · split
        · rw [if_pos (by omega)]
          refine ⟨_, rfl, ⟨?_, ?_⟩, by dsimp only; omega, by dsimp only; omega⟩
          · dsimp only; omega
          · simp; omega
        · exact ⟨_, rfl, ⟨by dsimp only; omega, by dsimp only; omega⟩, by dsimp only; omega, by dsimp only; omega⟩
  | succ d ih =>
    intro k x p A B hx hAB h6 h1 hk p0 p1
    obtain ⟨k, rfl⟩ : ∃ m, k = m + 1 + 1 := ⟨k - 2, by omega⟩
    rw [spec_somePanes.l0, if_pos (by omega)]
    refine one_bind hs hl p0 (by omega) (by simp) (fun v _ => ?_)
    rw [if_pos (by omega)]
    dsimp only
    refine one_bind hs hl (by omega) (by omega) (by simp) (fun v' _ => ?_)
    rw [if_pos (by omega), w64 (n := x - 1) (by omega) (by omega)]
    obtain ⟨r, e, hr1, hr2, hr3⟩ := ih (k + 1) (x - 1) (p + 1 + 1) (A ++ [wrap64 (v + v')]) (B ++ [v]) (by omega) (by simp; omega) (by simp; omega) (by simp; omega) (by omega) (by omega) (by omega)
    exact ⟨r, e, hr1, hr2, by omega⟩
theorem somePanes_ok (k : Nat) {s : List Int} {p : Int} (hs : Bytes s) (hl : s.length ≤ 2000) (p0 : 0 ≤ p) (p1 : p ≤ 800000) : ∃ r, spec_somePanes.f (k + 10) s p = some r ∧ (r.1.length ≤ 6 ∧ r.2.1.length ≤ 6) ∧ 0 ≤ r.2.2 ∧ r.2.2 ≤ p + 100 := by
  unfold spec_somePanes.f
  refine one_bind (k := k + 9) hs hl p0 (by omega) (by simp) (fun v hv => ?_)
  dsimp only
  have hv' : v = 3 ∨ v = 2 ∨ v = 4 ∨ v = 1 ∨ v = 6 := by simpa using hv
  obtain ⟨r, e, hr1, hr2, hr3⟩ := panes_loop hs hl v.toNat (k + 10) v (p + 1) [] [] (by omega) rfl (by simp; omega) (by simp; omega) (by omega) (by omega) (by omega)
  exact ⟨r, e, hr1, hr2, by omega⟩

theorem draw_ok (k : Nat) {l : List Int} (hb : Bytes l) : ∃ r, spec_DrawDragSash.f (k + 10) l = some r ∧ (r.1.length ≤ 6 ∧ r.2.1.length ≤ 6) := by
  unfold spec_DrawDragSash.f
  obtain ⟨s, e, hs, hl⟩ := newReader_ok l hb
  rw [e, Option.bind_some]
  dsimp only
  obtain ⟨r, e, hr, _, _⟩ := somePanes_ok k (p := 0) hs hl (by omega) (by omega)
  rw [e, Option.bind_some]
  try dsimp only
  repeat' first
    | (refine pick_bind (k := k + 9) hs hl (by omega) (by omega) (fun _ _ _ => ?_); try dsimp only)
    | (refine one_bind (k := k + 9) hs hl (by omega) (by omega) (by simp) (fun _ _ => ?_); try dsimp only)
    | split
  all_goals exact ⟨_, rfl, hr⟩

theorem far_loop {A M : List Int} {s n : Int} (hM : (M.length : Int) = (A.length : Int)) (h6 : (A.length : Int) ≤ 6) (n0 : n ≠ 0) (h : ∀ j : Int, 0 ≤ j → j < (A.length : Int) → (0 < n ∧ s < j ∨ n < 0 ∧ j ≤ s) → rd A j = rd M j) (d : Nat) : ∀ (k : Nat) (i : Int), i + d = (A.length : Int) → 0 ≤ i → d + 1 ≤ k → laws_FnDragSashFar.l0 k s n i A M = some true := by
  induction d with
  | zero =>
    intro k i hi i0 hk
    obtain ⟨k, rfl⟩ : ∃ m, k = m + 1 := ⟨k - 1, by omega⟩
    rw [laws_FnDragSashFar.l0, if_neg (by omega)]
    exact congrArg some (bne_iff_ne.2 n0)
  | succ d ih =>
    intro k i hi i0 hk
    obtain ⟨k, rfl⟩ : ∃ m, k = m + 1 := ⟨k - 1, by omega⟩
    have go := ih k (i + 1) (by omega) (by omega) (by omega)
    have hj := h i i0 (by omega)
    rw [laws_FnDragSashFar.l0, if_pos (by omega), w64 (n := i + 1) (by omega) (by omega)]
    by_cases c1 : n > 0
    · by_cases c2 : i > s
      · rw [if_pos c1, if_pos c2, if_pos i0, if_pos (by omega), if_pos (hj (by omega))]
        exact go
      · rw [if_pos c1, if_neg c2, if_neg (by omega)]
        exact go
    · by_cases c2 : i ≤ s
      · rw [if_neg c1, if_pos (by omega), if_pos c2, if_pos i0, if_pos (by omega), if_pos (hj (by omega))]
        exact go
      · rw [if_neg c1, if_pos (by omega), if_neg c2]
        exact go

theorem FnDragSashFar : laws_FnDragSashFar.Pure := by
  intro l0 _ _ hw
  refine ⟨60, ?_⟩
  unfold laws_FnDragSashFar.f
  by_cases hb : (l0.length : Int) > 1048576
  · rw [if_pos hb]
  obtain ⟨⟨S, M, s, n⟩, e, hS6, hM6⟩ := draw_ok 50 (bytes_of hw)
  rw [if_neg hb, e, Option.bind_some]
  clear e
  dsimp only at hS6 hM6
  dsimp only
  obtain ⟨A, B, e1, e2, hA, hB, hq⟩ := drag_tells S M s n (by omega) (by omega) 60 (by omega)
  obtain ⟨A2, B2, e3, e4, hA2, hB2, _⟩ := drag_tells S M s n (by omega) (by omega) 59 (by omega)
  have e5 := spec_DragSash.mono _ _ _ _ _ _ e3
  rw [e1] at e5
  obtain ⟨rfl, rfl⟩ : A = A2 ∧ B = B2 := by simpa using e5
  rw [e2, Option.bind_some, e1, Option.bind_some]
  dsimp only
  rw [equalPanes_ok (by omega) 60 (by omega), Option.bind_some, if_pos rfl]
  rcases hq with ⟨⟨hv, hs, hn⟩, rfl, hd⟩ | ⟨rfl, rfl⟩
  · have l1 := hv.len1
    have l6 := hv.len6
    have lM := hv.lenM
    have hl := hd.len
    have hva := hd.vpn_ hv
    have z : ((A.length : Int) == 0) = false := by
      rw [beq_eq_false_iff_ne]
      omega
    obtain ⟨u, f1, g1⟩ := impl_SashAt_tells S B s (by omega) (by omega) 59 (by omega)
    obtain ⟨v, f2, g2⟩ := impl_SashAt_tells A B s (by omega) (by omega) 59 (by omega)
    have hu : u = pre S (s + 1) := by
      rcases g1 with ⟨_, q⟩ | ⟨c, _⟩
      · exact q
      · exact absurd ⟨hv, by omega⟩ c
    have hw : v = pre A (s + 1) := by
      rcases g2 with ⟨_, q⟩ | ⟨c, _⟩
      · exact q
      · exact absurd ⟨hva, by omega⟩ c
    have p0 := pre_nonneg hv.bdS (i := s + 1) (by omega) (by omega)
    have p1 := pre_le hv.bdS (i := s + 1) (j := (S.length : Int)) (by omega) (by omega) (by omega)
    rw [pre_end (i := (S.length : Int)) (by omega)] at p1
    have hsum := hv.sum
    rw [z, laws_FnDragSashFar.j0, if_neg (by decide), f2, Option.bind_some, f1, Option.bind_some, w64 (n := u + n) (by omega) (by omega)]
    by_cases hp : v = u + n
    · rw [if_pos hp]
    · rw [if_neg hp]
      have q := hd.far (by omega)
      exact far_loop (by omega) (by omega) q.1 (fun j j0 j1 c => q.2 j j0 (by omega) c) A.length 59 0 (by omega) (by omega) (by omega)
  · rw [show ((([] : List Int).length : Int) == 0) = true from rfl]
    rw [laws_FnDragSashFar.j0, if_pos rfl, e3, Option.bind_some]
    dsimp only
    rw [equalPanes_ok (by simp) 59 (by simp), Option.bind_some]

end Go.Proofs.Ytffihkpnampboaa.Pure
