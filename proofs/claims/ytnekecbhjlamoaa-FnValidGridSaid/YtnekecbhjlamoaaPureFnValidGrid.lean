/- The plain side of FnValidGrid: the printed function answers true at every input; no condition is added. -/
import Derived.Test.YtnekecbhjlamoaaQFnValidGridx0
import Derived.Test.YtnekecbhjlamoaaQFnValidGridx1
import Derived.Test.YtnekecbhjlamoaaQFnValidGridx2
import Derived.Test.YtnekecbhjlamoaaQFnValidGridx3
import Derived.Test.YtnekecbhjlamoaaQFnValidGridx4
import Derived.Test.YtnekecbhjlamoaaQFnValidGridx5
import Derived.Test.YtnekecbhjlamoaaQFnValidGridx6
import Derived.Test.YtnekecbhjlamoaaBase
namespace Go.Proofs.Ytnekecbhjlamoaa.Pure
open Go.RowKit Go.Proofs.Ytnekecbhjlamoaa.PFnValidGrid Go.Proofs.YtnekecbhjlamoaaW.PrintWords Go.Proofs.YtnekecbhjlamoaaW.PrintLast Go.Proofs.YtnekecbhjlamoaaW.PrintMore Go.Proofs.Ytnekecbhjlamoaa.Base
set_option linter.unusedVariables false
set_option linter.unusedSimpArgs false

theorem within_eq (a b c : Int) : impl_within.f a b c = some (decide (b ≤ a ∧ a ≤ c)) := by
  unfold impl_within.f
  by_cases h : b ≤ a
  · rw [if_pos h]; simp [h]
  · rw [if_neg h]; simp [h]

theorem inrange_eq (a b c : Int) : spec_inRange.f a b c = some (decide (b ≤ a ∧ a ≤ c)) := by
  unfold spec_inRange.f
  by_cases h : b ≤ a
  · rw [if_pos h]; simp [h]
  · rw [if_neg h]; simp [h]

/-- A line that the program calls valid. -/
abbrev OKln (p : S104) : Prop := (0 ≤ p.f0 ∧ p.f0 ≤ 5) ∧ 0 ≤ p.f1 ∧ p.f1 ≤ 30
/-- Lines that the program calls valid. -/
def OKLn (L : List S104) : Prop := (1 ≤ (L.length : Int) ∧ (L.length : Int) ≤ 5) ∧ ∀ j : Nat, j < L.length → OKln (rd_T104 L j)
/-- A cell that the program calls valid among so many columns and rows. -/
abbrev OKC (nc nr : Int) (c : S91) : Prop := (0 ≤ c.f0 ∧ c.f0 ≤ nc - 1) ∧ (1 ≤ c.f2 ∧ c.f2 ≤ nc - c.f0) ∧ (0 ≤ c.f1 ∧ c.f1 ≤ nr - 1) ∧ (1 ≤ c.f3 ∧ c.f3 ≤ nr - c.f1) ∧ (0 ≤ c.f4 ∧ c.f4 ≤ 30) ∧ (0 ≤ c.f5 ∧ c.f5 ≤ 30) ∧ (0 ≤ c.f6 ∧ c.f6 ≤ 15) ∧ (0 ≤ c.f7 ∧ c.f7 ≤ 10) ∧ 0 ≤ c.f8 ∧ c.f8 ≤ 10
/-- A grid that the program calls valid. -/
def OKG (C R : List S104) (X : List S91) : Prop := OKLn C ∧ OKLn R ∧ (X.length : Int) ≤ 8 ∧ ∀ j : Nat, j < X.length → OKC C.length R.length (rd_T91 X j)
theorem line_lit (a b : Int) : impl_linesOk_lit.f a b = some (!decide ((0 ≤ a ∧ a ≤ 5) ∧ 0 ≤ b ∧ b ≤ 30)) := by
  unfold impl_linesOk_lit.f
  simp only [within_eq, Option.bind_some, decide_eq_true_eq]
  by_cases h : 0 ≤ a ∧ a ≤ 5
  · rw [if_pos h]
    simp [h]
  · rw [if_neg h, decide_eq_false (fun q => h q.1)]
    rfl
theorem spec_line (a b : Int) : spec_validLine.f a b = some (decide ((0 ≤ a ∧ a ≤ 5) ∧ 0 ≤ b ∧ b ≤ 30)) := by
  unfold spec_validLine.f
  simp only [inrange_eq, Option.bind_some, decide_eq_true_eq]
  by_cases h : 0 ≤ a ∧ a ≤ 5
  · rw [if_pos h]
    simp [h]
  · rw [if_neg h, decide_eq_false (fun q => h q.1)]
theorem impl_lines_loop {L : List S104} (hl : (L.length : Int) ≤ 1048576) (d : Nat) : ∀ (k i : Nat), i + d = L.length → d + 1 ≤ k → ∃ r, impl_Line_110.l0 k L (L.length : Int) (i : Int) = some r ∧ ((r < 0 ∧ ∀ j : Nat, i ≤ j → j < L.length → OKln (rd_T104 L j)) ∨ (0 ≤ r ∧ ∃ j : Nat, i ≤ j ∧ j < L.length ∧ ¬ OKln (rd_T104 L j))) := by
  induction d with
  | zero =>
    intro k i hi hk
    obtain ⟨k, rfl⟩ : ∃ m, k = m + 1 := ⟨k - 1, by omega⟩
    rw [impl_Line_110.l0, if_neg (by omega)]
    exact ⟨_, rfl, .inl ⟨by omega, fun j j0 j1 => by omega⟩⟩
  | succ d ih =>
    intro k i hi hk
    obtain ⟨k, rfl⟩ : ∃ m, k = m + 1 := ⟨k - 1, by omega⟩
    rw [impl_Line_110.l0, if_pos (by omega), if_pos (by omega), if_pos (by omega), line_lit, Option.bind_some]
    by_cases h : OKln (rd_T104 L i)
    · obtain ⟨r, e, hr⟩ := ih k (i + 1) (by omega) (by omega)
      rw [decide_eq_true h, if_neg (by decide), w64 (n := (i : Int) + 1) (by omega) (by omega), show (i : Int) + 1 = ((i + 1 : Nat) : Int) from by omega]
      refine ⟨r, e, ?_⟩
      rcases hr with ⟨hr, q⟩ | ⟨hr, j, j0, j1, q⟩
      · refine .inl ⟨hr, fun j j0 j1 => ?_⟩
        by_cases e' : j = i
        · rw [e']; exact h
        · exact q j (by omega) j1
      · exact .inr ⟨hr, j, by omega, j1, q⟩
    · rw [decide_eq_false h, if_pos (by decide)]
      exact ⟨_, rfl, .inr ⟨by omega, i, by omega, by omega, h⟩⟩
theorem impl_linesOk_ok (L : List S104) (hl : (L.length : Int) ≤ 1048576) (k : Nat) (hk : L.length + 1 ≤ k) : (OKLn L ∧ impl_linesOk.f k L = some true) ∨ (¬ OKLn L ∧ impl_linesOk.f k L = some false) := by
  obtain ⟨r, e, hr⟩ := impl_lines_loop hl L.length k 0 (by omega) hk
  rw [Int.natCast_zero] at e
  unfold impl_linesOk.f impl_Line_102.f impl_Line_110.f
  rw [e, Option.bind_some, within_eq, Option.bind_some, Option.bind_some]
  by_cases h5 : 1 ≤ (L.length : Int) ∧ (L.length : Int) ≤ 5
  · rw [decide_eq_true h5, if_pos rfl]
    rcases hr with ⟨hr, q⟩ | ⟨hr, j, j0, j1, q⟩
    · rw [decide_eq_false (show ¬ r ≥ 0 by omega)]
      exact .inl ⟨⟨h5, fun j j1 => q j (by omega) j1⟩, rfl⟩
    · rw [decide_eq_true (show r ≥ 0 by omega)]
      exact .inr ⟨fun h => q (h.2 j j1), rfl⟩
  · rw [decide_eq_false h5, if_neg (by decide)]
    exact .inr ⟨fun h => h5 h.1, rfl⟩
theorem spec_lines_loop {L : List S104} (hl : (L.length : Int) ≤ 1048576) (d : Nat) : ∀ (k i : Nat), i + d = L.length → d + 1 ≤ k → (∀ j : Nat, j < i → OKln (rd_T104 L j)) → (OKLn L ∧ spec_validLines.l0 k L (i : Int) = some true) ∨ (¬ OKLn L ∧ spec_validLines.l0 k L (i : Int) = some false) := by
  induction d with
  | zero =>
    intro k i hi hk hq
    obtain ⟨k, rfl⟩ : ∃ m, k = m + 1 := ⟨k - 1, by omega⟩
    rw [spec_validLines.l0, if_neg (by omega), inrange_eq, Option.bind_some]
    by_cases h5 : 1 ≤ (L.length : Int) ∧ (L.length : Int) ≤ 5
    · rw [decide_eq_true h5]
      exact .inl ⟨⟨h5, fun j j1 => hq j (by omega)⟩, rfl⟩
    · rw [decide_eq_false h5]
      exact .inr ⟨fun h => h5 h.1, rfl⟩
  | succ d ih =>
    intro k i hi hk hq
    obtain ⟨k, rfl⟩ : ∃ m, k = m + 1 := ⟨k - 1, by omega⟩
    rw [spec_validLines.l0, if_pos (by omega), if_pos (by omega), spec_line, Option.bind_some]
    by_cases h : OKln (rd_T104 L i)
    · rw [decide_eq_true h, if_pos rfl, w64 (n := (i : Int) + 1) (by omega) (by omega), show (i : Int) + 1 = ((i + 1 : Nat) : Int) from by omega]
      refine ih k (i + 1) (by omega) (by omega) (fun j j1 => ?_)
      by_cases e' : j = i
      · rw [e']; exact h
      · exact hq j (by omega)
    · rw [decide_eq_false h, if_neg (by decide)]
      exact .inr ⟨fun q => h (q.2 i (by omega)), rfl⟩
theorem spec_validLines_ok (L : List S104) (hl : (L.length : Int) ≤ 1048576) (k : Nat) (hk : L.length + 1 ≤ k) : (OKLn L ∧ spec_validLines.f k L = some true) ∨ (¬ OKLn L ∧ spec_validLines.f k L = some false) := by
  unfold spec_validLines.f
  have := spec_lines_loop hl L.length k 0 (by omega) hk (fun j j1 => by omega)
  rwa [Int.natCast_zero] at this
theorem span_eq (a b n : Int) (h0 : 0 ≤ n) (h1 : n ≤ 1048576) : impl_spanOk.f a b n = some (decide ((0 ≤ a ∧ a ≤ n - 1) ∧ 1 ≤ b ∧ b ≤ n - a)) := by
  unfold impl_spanOk.f
  simp only [within_eq, Option.bind_some, decide_eq_true_eq]
  rw [w64 (n := n - 1) (by omega) (by omega)]
  by_cases h : 0 ≤ a ∧ a ≤ n - 1
  · rw [if_pos h, w64 (n := n - a) (by omega) (by omega)]
    simp [h]
  · rw [if_neg h, decide_eq_false (fun q => h q.1)]
theorem cell_lit (c : S91) (C R : List S104) (X : List S91) (hC : (C.length : Int) ≤ 1048576) (hR : (R.length : Int) ≤ 1048576) : impl_ValidGrid_lit.f c.f0 c.f1 c.f2 c.f3 c.f4 c.f5 c.f6 c.f7 c.f8 C R X = some (!decide (OKC C.length R.length c)) := by
  unfold impl_ValidGrid_lit.f impl_Cell_ok.f impl_Cell_lies.f
  simp only [within_eq, span_eq _ _ (C.length : Int) (by omega) hC, span_eq _ _ (R.length : Int) (by omega) hR, Option.bind_some, decide_eq_true_eq]
  repeat' split
  all_goals
    refine congrArg some (congrArg (fun b : Bool => !b) ?_)
    first
    | (rw [decide_eq_decide]; omega)
    | (symm; rw [decide_eq_false_iff_not]; omega)
theorem spec_cell (c : S91) (C R : List S104) (X : List S91) (hC : (C.length : Int) ≤ 1048576) (hR : (R.length : Int) ≤ 1048576) : spec_validCell.f C R X c.f0 c.f1 c.f2 c.f3 c.f4 c.f5 c.f6 c.f7 c.f8 = some (decide (OKC C.length R.length c)) := by
  unfold spec_validCell.f
  simp only [inrange_eq, Option.bind_some, decide_eq_true_eq]
  rw [w64 (n := (C.length : Int) - 1) (by omega) (by omega), w64 (n := (R.length : Int) - 1) (by omega) (by omega)]
  by_cases h0 : 0 ≤ c.f0 ∧ c.f0 ≤ (C.length : Int) - 1
  · by_cases h1 : 0 ≤ c.f1 ∧ c.f1 ≤ (R.length : Int) - 1
    · rw [if_pos h0, if_pos h1, w64 (n := (C.length : Int) - c.f0) (by omega) (by omega), w64 (n := (R.length : Int) - c.f1) (by omega) (by omega)]
      repeat' split
      all_goals
        refine congrArg some ?_
        first
        | (rw [decide_eq_decide]; omega)
        | (symm; rw [decide_eq_false_iff_not]; omega)
    · rw [if_pos h0, if_neg h1, decide_eq_false (fun q => h1 q.2.2.1)]
  · rw [if_neg h0, decide_eq_false (fun q => h0 q.1)]
theorem impl_cells_loop {C R : List S104} {X : List S91} (hC : (C.length : Int) ≤ 1048576) (hR : (R.length : Int) ≤ 1048576) (hX : (X.length : Int) ≤ 1048576) (d : Nat) : ∀ (k i : Nat), i + d = X.length → d + 1 ≤ k → ∃ r, impl_Cell_104.l0 k X (X.length : Int) (i : Int) C R X = some r ∧ ((r < 0 ∧ ∀ j : Nat, i ≤ j → j < X.length → OKC C.length R.length (rd_T91 X j)) ∨ (0 ≤ r ∧ ∃ j : Nat, i ≤ j ∧ j < X.length ∧ ¬ OKC C.length R.length (rd_T91 X j))) := by
  induction d with
  | zero =>
    intro k i hi hk
    obtain ⟨k, rfl⟩ : ∃ m, k = m + 1 := ⟨k - 1, by omega⟩
    rw [impl_Cell_104.l0, if_neg (by omega)]
    exact ⟨_, rfl, .inl ⟨by omega, fun j j0 j1 => by omega⟩⟩
  | succ d ih =>
    intro k i hi hk
    obtain ⟨k, rfl⟩ : ∃ m, k = m + 1 := ⟨k - 1, by omega⟩
    rw [impl_Cell_104.l0, if_pos (by omega), if_pos (by omega), if_pos (by omega), cell_lit _ C R X hC hR, Option.bind_some]
    by_cases h : OKC C.length R.length (rd_T91 X i)
    · obtain ⟨r, e, hr⟩ := ih k (i + 1) (by omega) (by omega)
      rw [decide_eq_true h, if_neg (by decide), w64 (n := (i : Int) + 1) (by omega) (by omega), show (i : Int) + 1 = ((i + 1 : Nat) : Int) from by omega]
      refine ⟨r, e, ?_⟩
      rcases hr with ⟨hr, q⟩ | ⟨hr, j, j0, j1, q⟩
      · refine .inl ⟨hr, fun j j0 j1 => ?_⟩
        by_cases e' : j = i
        · rw [e']; exact h
        · exact q j (by omega) j1
      · exact .inr ⟨hr, j, by omega, j1, q⟩
    · rw [decide_eq_false h, if_pos (by decide)]
      exact ⟨_, rfl, .inr ⟨by omega, i, by omega, by omega, h⟩⟩
theorem impl_ValidGrid_ok (C R : List S104) (X : List S91) (hC : (C.length : Int) ≤ 1048576) (hR : (R.length : Int) ≤ 1048576) (hX : (X.length : Int) ≤ 1048576) (k : Nat) (hk : C.length + R.length + X.length + 1 ≤ k) : (OKG C R X ∧ impl_ValidGrid.f k C R X = some true) ∨ (¬ OKG C R X ∧ impl_ValidGrid.f k C R X = some false) := by
  unfold impl_ValidGrid.f
  rcases impl_linesOk_ok C hC k (by omega) with ⟨h1, e1⟩ | ⟨h1, e1⟩
  · rw [e1, Option.bind_some, if_pos rfl]
    rcases impl_linesOk_ok R hR k (by omega) with ⟨h2, e2⟩ | ⟨h2, e2⟩
    · rw [e2, Option.bind_some, if_pos rfl]
      by_cases h8 : (X.length : Int) ≤ 8
      · obtain ⟨r, e, hr⟩ := impl_cells_loop hC hR hX X.length k 0 (by omega) (by omega)
        rw [Int.natCast_zero] at e
        unfold impl_Cell_84.f impl_Cell_104.f
        rw [if_pos h8, e, Option.bind_some, Option.bind_some]
        rcases hr with ⟨hr, q⟩ | ⟨hr, j, j0, j1, q⟩
        · rw [decide_eq_false (show ¬ r ≥ 0 by omega)]
          exact .inl ⟨⟨h1, h2, h8, fun j j1 => q j (by omega) j1⟩, rfl⟩
        · rw [decide_eq_true (show r ≥ 0 by omega)]
          exact .inr ⟨fun h => q (h.2.2.2 j j1), rfl⟩
      · rw [if_neg h8]
        exact .inr ⟨fun h => h8 h.2.2.1, rfl⟩
    · rw [e2, Option.bind_some, if_neg (by decide)]
      exact .inr ⟨fun h => h2 h.2.1, rfl⟩
  · rw [e1, Option.bind_some, if_neg (by decide)]
    exact .inr ⟨fun h => h1 h.1, rfl⟩
theorem spec_grid_loop {C R : List S104} {X : List S91} (hC : (C.length : Int) ≤ 1048576) (hR : (R.length : Int) ≤ 1048576) (hX : (X.length : Int) ≤ 1048576) (d : Nat) : ∀ (k i : Nat), i + d = X.length → C.length + R.length + d + 2 ≤ k → (∀ j : Nat, j < i → OKC C.length R.length (rd_T91 X j)) → (OKG C R X ∧ spec_validGrid.l0 k (i : Int) C R X = some true) ∨ (¬ OKG C R X ∧ spec_validGrid.l0 k (i : Int) C R X = some false) := by
  induction d with
  | zero =>
    intro k i hi hk hq
    obtain ⟨k, rfl⟩ : ∃ m, k = m + 1 := ⟨k - 1, by omega⟩
    rw [spec_validGrid.l0, if_neg (by omega)]
    rcases spec_validLines_ok C hC k (by omega) with ⟨h1, e1⟩ | ⟨h1, e1⟩
    · rw [e1, Option.bind_some, if_pos rfl]
      rcases spec_validLines_ok R hR k (by omega) with ⟨h2, e2⟩ | ⟨h2, e2⟩
      · rw [e2, Option.bind_some, if_pos rfl]
        by_cases h8 : (X.length : Int) ≤ 8
        · rw [decide_eq_true h8]
          exact .inl ⟨⟨h1, h2, h8, fun j j1 => hq j (by omega)⟩, rfl⟩
        · rw [decide_eq_false h8]
          exact .inr ⟨fun h => h8 h.2.2.1, rfl⟩
      · rw [e2, Option.bind_some, if_neg (by decide)]
        exact .inr ⟨fun h => h2 h.2.1, rfl⟩
    · rw [e1, Option.bind_some, if_neg (by decide)]
      exact .inr ⟨fun h => h1 h.1, rfl⟩
  | succ d ih =>
    intro k i hi hk hq
    obtain ⟨k, rfl⟩ : ∃ m, k = m + 1 := ⟨k - 1, by omega⟩
    rw [spec_validGrid.l0, if_pos (by omega), if_pos (by omega), spec_cell _ C R X hC hR, Option.bind_some]
    by_cases h : OKC C.length R.length (rd_T91 X i)
    · rw [decide_eq_true h, if_pos rfl, w64 (n := (i : Int) + 1) (by omega) (by omega), show (i : Int) + 1 = ((i + 1 : Nat) : Int) from by omega]
      refine ih k (i + 1) (by omega) (by omega) (fun j j1 => ?_)
      by_cases e' : j = i
      · rw [e']; exact h
      · exact hq j (by omega)
    · rw [decide_eq_false h, if_neg (by decide)]
      exact .inr ⟨fun q => h (q.2.2.2 i (by omega)), rfl⟩
theorem spec_ValidGrid_ok (C R : List S104) (X : List S91) (hC : (C.length : Int) ≤ 1048576) (hR : (R.length : Int) ≤ 1048576) (hX : (X.length : Int) ≤ 1048576) (k : Nat) (hk : C.length + R.length + X.length + 2 ≤ k) : (OKG C R X ∧ spec_ValidGrid.f k C R X = some true) ∨ (¬ OKG C R X ∧ spec_ValidGrid.f k C R X = some false) := by
  unfold spec_ValidGrid.f spec_validGrid.f
  rcases spec_grid_loop hC hR hX X.length k 0 (by omega) (by omega) (fun j j1 => by omega) with ⟨h, e⟩ | ⟨h, e⟩
  · rw [Int.natCast_zero] at e
    rw [e]
    exact .inl ⟨h, rfl⟩
  · rw [Int.natCast_zero] at e
    rw [e]
    exact .inr ⟨h, rfl⟩

theorem newReader_ok (l : List Int) (hl : Bytes l) : ∃ s, spec_newReader.f l = some (s, 0) ∧ Bytes s ∧ s.length ≤ 2000 := by
  unfold spec_newReader.f
  by_cases h : (l.length : Int) > 2000
  · rw [if_pos h, if_pos (by omega)]
    exact ⟨_, rfl, fun x hx => hl x (List.mem_of_mem_take hx), List.length_take_le _ _⟩
  · rw [if_neg h]
    exact ⟨l, rfl, hl, by omega⟩
theorem pick_ok (k : Nat) {s : List Int} {p : Int} (n : Int) (hs : Bytes s) (hl : s.length ≤ 2000) (p0 : 0 ≤ p) (p1 : p ≤ 1000000) :
    ∃ v, spec_reader_pick.f (k + 1) s p n = some (v, p + 1) ∧ 0 ≤ v ∧ (1 ≤ n → v < n) ∧ (n < 1 → v = 0) := by
  unfold spec_reader_pick.f
  rw [w64 (n := p + 1) (by omega) (by omega)]
  by_cases h1 : n < 1
  · rw [if_pos h1, spec_reader_pick.j0, if_pos rfl]
    exact ⟨0, rfl, by omega, by omega, fun _ => rfl⟩
  · rw [if_neg h1, spec_reader_pick.j0]
    by_cases h2 : (s.length : Int) = 0
    · rw [if_pos (by simp only [h2]; rfl)]
      exact ⟨0, rfl, by omega, by omega, fun _ => rfl⟩
    · rw [if_neg (by rw [beq_iff_eq]; exact h2), w64 (n := p + 1 - 1) (by omega) (by omega), show p + 1 - 1 = p from by omega]
      by_cases h3 : p < (s.length : Int)
      · have hr := rd_byte hs p
        rw [if_pos h3, if_pos p0, if_neg (by omega), w64 (n := rd s p) (by omega) (by omega)]
        have ht := tmod_lt hr.1 (show 1 ≤ n by omega)
        exact ⟨_, rfl, ht.1, fun _ => ht.2, fun h => by omega⟩
      · have hlen : 1 ≤ (s.length : Int) := by omega
        have q1 := tmod_lt p0 hlen
        have q2 := tmod_lt (a := p * 7 + 3) (by omega) hlen
        have qd : 0 ≤ Int.tdiv p (s.length : Int) ∧ Int.tdiv p (s.length : Int) ≤ p := by
          rw [td2 p0]
          exact ⟨Int.ediv_nonneg p0 (by omega), Int.ediv_le_self _ p0⟩
        rw [if_neg h3, if_neg h2, if_pos q1.1, if_pos q1.2, w64 (n := p * 7) (by omega) (by omega), w64 (n := p * 7 + 3) (by omega) (by omega), if_pos q2.1, if_pos q2.2, if_neg (by omega)]
        have ra := rd_byte hs (Int.tmod p (s.length : Int))
        have rb := rd_byte hs (Int.tmod (p * 7 + 3) (s.length : Int))
        generalize rd s (Int.tmod p (s.length : Int)) = a at *
        generalize rd s (Int.tmod (p * 7 + 3) (s.length : Int)) = b at *
        generalize Int.tdiv p (s.length : Int) = d at *
        rw [w64 (n := a) (by omega) (by omega), w64 (n := b) (by omega) (by omega), w64 (n := a * 131) (by omega) (by omega), w64 (n := b * 1117) (by omega) (by omega), w64 (n := a * 131 + b * 1117) (by omega) (by omega), w64 (n := p * 29) (by omega) (by omega), w64 (n := a * 131 + b * 1117 + p * 29) (by omega) (by omega), w64 (n := d) (by omega) (by omega), w64 (n := d * 53) (by omega) (by omega), w64 (n := a * 131 + b * 1117 + p * 29 + d * 53) (by omega) (by omega)]
        have hx : 0 ≤ a * 131 + b * 1117 + p * 29 + d * 53 ∧ a * 131 + b * 1117 + p * 29 + d * 53 ≤ 1000000000 := by omega
        generalize a * 131 + b * 1117 + p * 29 + d * 53 = x at *
        rw [td2 hx.1, w64 (n := x / 64) (by omega) (by omega)]
        have ht := tmod_lt (xor_range (a := x) (b := x / 64) (by omega) (by omega) (by omega) (by omega)) (show 1 ≤ n by omega)
        exact ⟨_, rfl, ht.1, fun _ => ht.2, fun h => by omega⟩

theorem one_ok (k : Nat) {s : List Int} {p : Int} (L : List Int) (hL : 1 ≤ (L.length : Int)) (hs : Bytes s) (hl : s.length ≤ 2000) (p0 : 0 ≤ p) (p1 : p ≤ 1000000) :
    ∃ v, spec_reader_one.f (k + 1) s p L = some (v, p + 1) ∧ v ∈ L := by
  obtain ⟨v, e, v0, v1, _⟩ := pick_ok k (L.length : Int) hs hl p0 p1
  unfold spec_reader_one.f
  rw [e, Option.bind_some]
  simp only
  rw [if_pos v0, if_pos (v1 hL)]
  exact ⟨_, rfl, rd_mem v0 (v1 hL)⟩

theorem pick_bind {β : Type} {P : β → Prop} {k : Nat} {s : List Int} {p n : Int} {f : Int × Int → Option β} (hs : Bytes s) (hl : s.length ≤ 2000) (p0 : 0 ≤ p) (p1 : p ≤ 1000000)
    (h : ∀ v, 0 ≤ v → (1 ≤ n → v < n) → ∃ r, f (v, p + 1) = some r ∧ P r) : ∃ r, (spec_reader_pick.f (k + 1) s p n).bind f = some r ∧ P r := by
  obtain ⟨v, e, v0, v1, _⟩ := pick_ok k n hs hl p0 p1
  rw [e, Option.bind_some]
  exact h v v0 v1

theorem one_bind {β : Type} {P : β → Prop} {k : Nat} {s : List Int} {p : Int} {L : List Int} {f : Int × Int → Option β} (hs : Bytes s) (hl : s.length ≤ 2000) (p0 : 0 ≤ p) (p1 : p ≤ 1000000) (hL : 1 ≤ (L.length : Int))
    (h : ∀ v, v ∈ L → ∃ r, f (v, p + 1) = some r ∧ P r) : ∃ r, (spec_reader_one.f (k + 1) s p L).bind f = some r ∧ P r := by
  obtain ⟨v, e, hv⟩ := one_ok k L hL hs hl p0 p1
  rw [e, Option.bind_some]
  exact h v hv

theorem goodLines_loop {s : List Int} (hs : Bytes s) (hl : s.length ≤ 2000) (d : Nat) : ∀ (k : Nat) (O : List S104) (n p : Int), n = d → O.length + d ≤ 5 → d + 2 ≤ k → 0 ≤ p → p ≤ 800000 + 2 * O.length → ∃ r, spec_goodLines.l0 k O n s p = some r ∧ (r.1.length = O.length + d ∧ 0 ≤ r.2 ∧ r.2 ≤ p + 2 * d) := by
  induction d with
  | zero =>
    intro k O n p hn hO hk p0 p1
    obtain ⟨k, rfl⟩ : ∃ m, k = m + 1 := ⟨k - 1, by omega⟩
    rw [spec_goodLines.l0, if_neg (by omega)]
    exact ⟨_, rfl, by dsimp only; omega, by dsimp only; omega, by dsimp only; omega⟩
  | succ d ih =>
    intro k O n p hn hO hk p0 p1
    obtain ⟨k, rfl⟩ : ∃ m, k = m + 2 := ⟨k - 2, by omega⟩
    rw [spec_goodLines.l0, if_pos (by omega)]
    refine one_bind hs hl (by omega) (by omega) (by simp) (fun v _ => ?_)
    refine one_bind hs hl (by dsimp only; omega) (by dsimp only; omega) (by simp) (fun v' _ => ?_)
    dsimp only
    rw [if_pos (by omega), w64 (n := n - 1) (by omega) (by omega)]
    obtain ⟨r, e, q1, q2, q3⟩ := ih (k + 1) (O ++ [⟨v, v'⟩]) (n - 1) (p + 1 + 1) (by omega) (by rw [List.length_append]; simp; omega) (by omega) (by omega) (by rw [List.length_append]; simp; omega)
    rw [List.length_append] at q1
    exact ⟨r, e, by simp at q1; omega, q2, by omega⟩
theorem goodLines_ok (k : Nat) {s : List Int} {p : Int} (hs : Bytes s) (hl : s.length ≤ 2000) (p0 : 0 ≤ p) (p1 : p ≤ 700000) : ∃ r, spec_goodLines.f (k + 10) s p = some r ∧ ((1 ≤ r.1.length ∧ r.1.length ≤ 5) ∧ 0 ≤ r.2 ∧ r.2 ≤ p + 20) := by
  unfold spec_goodLines.f
  refine one_bind (k := k + 9) hs hl p0 (by omega) (by simp) (fun v hv => ?_)
  have hv' : 1 ≤ v ∧ v ≤ 5 := by
    simp only [List.mem_cons, List.not_mem_nil, or_false] at hv
    omega
  obtain ⟨r, e, q1, q2, q3⟩ := goodLines_loop hs hl v.toNat (k + 10) [] v (p + 1) (by omega) (by simp; omega) (by omega) (by omega) (by simp; omega)
  rw [List.length_nil] at q1
  exact ⟨r, e, ⟨by omega, by omega⟩, q2, by omega⟩
theorem someLines_ok (k : Nat) {s : List Int} {p : Int} (hs : Bytes s) (hl : s.length ≤ 2000) (p0 : 0 ≤ p) (p1 : p ≤ 600000) : ∃ r, spec_someLines.f (k + 10) s p = some r ∧ r.1.length ≤ 5 := by
  unfold spec_someLines.f
  obtain ⟨⟨L, p'⟩, e, ⟨q1, q2⟩, q3, q4⟩ := goodLines_ok k (p := p) hs hl p0 (by omega)
  dsimp only at q1 q2 q3 q4
  rw [e, Option.bind_some]
  dsimp only
  refine pick_bind (k := k + 9) hs hl q3 (by omega) (fun v _ _ => ?_)
  dsimp only
  by_cases h0 : v = 0
  · rw [if_pos h0]
    refine one_bind (k := k + 9) hs hl (by omega) (by omega) (by simp) (fun _ _ => ?_)
    rw [if_pos (by omega)]
    exact ⟨_, rfl, by dsimp only; rw [List.length_set]; exact q2⟩
  · rw [if_neg h0]
    by_cases h1 : v = 1
    · rw [if_pos h1]
      refine one_bind (k := k + 9) hs hl (by omega) (by omega) (by simp) (fun _ _ => ?_)
      rw [if_pos (by omega)]
      exact ⟨_, rfl, by dsimp only; rw [List.length_set]; exact q2⟩
    · rw [if_neg h1]
      by_cases h2 : v = 2
      · rw [if_pos h2]
        exact ⟨_, rfl, by simp⟩
      · rw [if_neg h2]
        exact ⟨_, rfl, q2⟩
theorem goodCell_ok (k : Nat) {s : List Int} {p : Int} (nc nr : Int) (hs : Bytes s) (hl : s.length ≤ 2000) (p0 : 0 ≤ p) (p1 : p ≤ 800000) : ∃ r, spec_goodCell.f (k + 2) s p nc nr = some r ∧ (0 ≤ r.2.2.2.2.2.2.2.2.2 ∧ r.2.2.2.2.2.2.2.2.2 ≤ p + 30) := by
  unfold spec_goodCell.f
  repeat' first
    | (refine pick_bind (k := k + 1) hs hl (by omega) (by omega) (fun _ _ _ => ?_); try dsimp only)
    | (refine one_bind (k := k + 1) hs hl (by omega) (by omega) (by simp) (fun _ _ => ?_); try dsimp only)
    | split
  all_goals exact ⟨_, rfl, by dsimp only; omega, by dsimp only; omega⟩
theorem drawG_loop {s : List Int} (hs : Bytes s) (hl : s.length ≤ 2000) {C R : List S104} (hC : C.length ≤ 5) (hR : R.length ≤ 5) (d : Nat) : ∀ (k : Nat) (X : List S91) (n p : Int), n = d → X.length + d ≤ 8 → d + 12 ≤ k → 0 ≤ p → p ≤ 1000 + 30 * X.length → ∃ r, spec_someGrid.l0 k n s p C R X = some r ∧ (r.1.length ≤ 5 ∧ r.2.1.length ≤ 5 ∧ r.2.2.1.length ≤ 8) := by
  induction d with
  | zero =>
    intro k X n p hn hX hk p0 p1
    obtain ⟨k, rfl⟩ : ∃ m, k = m + 11 := ⟨k - 11, by omega⟩
    rw [spec_someGrid.l0, if_neg (by omega)]
    refine pick_bind (k := k + 9) hs hl (by omega) (by omega) (fun v _ _ => ?_)
    dsimp only
    by_cases h0 : v = 0
    · rw [if_pos h0]
      obtain ⟨r, e, q⟩ := someLines_ok k (p := p + 1) hs hl (by omega) (by omega)
      rw [e, Option.bind_some]
      exact ⟨_, rfl, q, hR, by dsimp only; omega⟩
    · rw [if_neg h0]
      by_cases h1 : v = 1
      · rw [if_pos h1]
        by_cases hx : (X.length : Int) > 0
        · rw [if_pos hx]
          refine one_bind (k := k + 9) hs hl (by omega) (by omega) (by simp) (fun _ _ => ?_)
          rw [if_pos (by omega)]
          exact ⟨_, rfl, hC, hR, by dsimp only; rw [List.length_set]; omega⟩
        · rw [if_neg hx]
          exact ⟨_, rfl, hC, hR, by dsimp only; omega⟩
      · rw [if_neg h1]
        by_cases h2 : v = 2
        · rw [if_pos h2]
          by_cases hx : (X.length : Int) > 0
          · rw [if_pos hx]
            refine one_bind (k := k + 9) hs hl (by omega) (by omega) (by simp) (fun _ _ => ?_)
            rw [if_pos (by omega)]
            exact ⟨_, rfl, hC, hR, by dsimp only; rw [List.length_set]; omega⟩
          · rw [if_neg hx]
            exact ⟨_, rfl, hC, hR, by dsimp only; omega⟩
        · rw [if_neg h2]
          exact ⟨_, rfl, hC, hR, by dsimp only; omega⟩
  | succ d ih =>
    intro k X n p hn hX hk p0 p1
    obtain ⟨k, rfl⟩ : ∃ m, k = m + 3 := ⟨k - 3, by omega⟩
    rw [spec_someGrid.l0, if_pos (by omega)]
    obtain ⟨r, e, q0, q1⟩ := goodCell_ok k (p := p) (C.length : Int) (R.length : Int) hs hl (by omega) (by omega)
    rw [e, Option.bind_some, if_pos (by omega), w64 (n := n - 1) (by omega) (by omega)]
    exact ih (k + 2) _ (n - 1) _ (by omega) (by rw [List.length_append]; simp; omega) (by omega) q0 (by rw [List.length_append]; simp; omega)
theorem draw_ok (k : Nat) {l : List Int} (hb : Bytes l) : ∃ r, spec_DrawValidGrid.f (k + 40) l = some r ∧ (r.1.length ≤ 5 ∧ r.2.1.length ≤ 5 ∧ r.2.2.length ≤ 8) := by
  unfold spec_DrawValidGrid.f spec_someGrid.f
  obtain ⟨s, e, hs, hl⟩ := newReader_ok l hb
  rw [e, Option.bind_some]
  dsimp only
  obtain ⟨⟨C, p1⟩, e1, ⟨_, c5⟩, q0, q1⟩ := goodLines_ok (k + 30) (p := 0) hs hl (by omega) (by omega)
  dsimp only at c5 q0 q1
  obtain ⟨⟨R, p2⟩, e2, ⟨_, r5⟩, q2, q3⟩ := goodLines_ok (k + 30) (p := p1) hs hl q0 (by omega)
  dsimp only at r5 q2 q3
  obtain ⟨v, e3, hv⟩ := one_ok (k + 39) (p := p2) [4, 3, 5, 2, 1, 0, 8] (by simp) hs hl q2 (by omega)
  have hv' : 0 ≤ v ∧ v ≤ 8 := by
    simp only [List.mem_cons, List.not_mem_nil, or_false] at hv
    omega
  obtain ⟨r, e4, hr⟩ := drawG_loop hs hl c5 r5 v.toNat (k + 40) [] v (p2 + 1) (by omega) (by simp; omega) (by omega) (by omega) (by simp; omega)
  rw [e1, Option.bind_some]
  dsimp only
  rw [e2, Option.bind_some]
  dsimp only
  rw [e3, Option.bind_some]
  dsimp only
  rw [e4, Option.bind_some]
  exact ⟨_, rfl, hr⟩

theorem FnValidGrid : laws_FnValidGrid.Pure := by
  intro l0 _ _ hw
  refine ⟨100, ?_⟩
  unfold laws_FnValidGrid.f
  by_cases hb : (l0.length : Int) > 1048576
  · rw [if_pos hb]
  obtain ⟨⟨C, R, X⟩, e, c5, r5, x8⟩ := draw_ok 60 (bytes_of hw)
  dsimp only at c5 r5 x8
  rw [if_neg hb, e, Option.bind_some]
  clear e
  dsimp only
  rcases impl_ValidGrid_ok C R X (by omega) (by omega) (by omega) 100 (by omega) with ⟨h, e1⟩ | ⟨h, e1⟩
  · rcases spec_ValidGrid_ok C R X (by omega) (by omega) (by omega) 100 (by omega) with ⟨_, e2⟩ | ⟨h', _⟩
    · have g1 : OKG C R [] := ⟨h.1, h.2.1, by simp, fun j j1 => by simp at j1⟩
      have g2 : OKG R C [] := ⟨h.2.1, h.1, by simp, fun j j1 => by simp at j1⟩
      rw [e1, e2, Option.bind_some, Option.bind_some, if_neg (by decide), laws_FnValidGrid.j0, if_neg (by decide)]
      rcases impl_ValidGrid_ok C R [] (by omega) (by omega) (by simp) 99 (by simp; omega) with ⟨_, e3⟩ | ⟨h', _⟩
      · rcases impl_ValidGrid_ok R C [] (by omega) (by omega) (by simp) 99 (by simp; omega) with ⟨_, e4⟩ | ⟨h', _⟩
        · rw [e3, Option.bind_some, if_pos rfl, e4, Option.bind_some]
        · exact absurd g2 h'
      · exact absurd g1 h'
    · exact absurd h h'
  · rcases spec_ValidGrid_ok C R X (by omega) (by omega) (by omega) 100 (by omega) with ⟨h', _⟩ | ⟨_, e2⟩
    · exact absurd h' h
    · rw [e1, e2, Option.bind_some, Option.bind_some, if_neg (by decide), laws_FnValidGrid.j0, if_pos (by decide)]
      rcases spec_ValidGrid_ok C R X (by omega) (by omega) (by omega) 99 (by omega) with ⟨h', _⟩ | ⟨_, e3⟩
      · exact absurd h' h
      · rw [e3, Option.bind_some]
        rfl

end Go.Proofs.Ytnekecbhjlamoaa.Pure
