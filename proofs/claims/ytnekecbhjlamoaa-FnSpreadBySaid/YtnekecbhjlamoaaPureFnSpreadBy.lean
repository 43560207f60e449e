/- The plain side of FnSpreadBy: the printed function answers true at every input; no condition is added. -/
import Derived.Test.YtnekecbhjlamoaaQFnSpreadByx0
import Derived.Test.YtnekecbhjlamoaaQFnSpreadByx1
import Derived.Test.YtnekecbhjlamoaaQFnSpreadByx2
import Derived.Test.YtnekecbhjlamoaaQFnSpreadByx3
import Derived.Test.YtnekecbhjlamoaaQFnSpreadByx4
import Derived.Test.YtnekecbhjlamoaaPanes
namespace Go.Proofs.Ytnekecbhjlamoaa.Pure
open Go.RowKit Go.Proofs.Ytnekecbhjlamoaa.PFnSpreadBy Go.Proofs.YtnekecbhjlamoaaW.PrintWords Go.Proofs.YtnekecbhjlamoaaW.PrintLast Go.Proofs.YtnekecbhjlamoaaW.PrintMore Go.Proofs.Ytnekecbhjlamoaa.Base
set_option linter.unusedVariables false
set_option linter.unusedSimpArgs false

theorem within_eq (a b c : Int) : impl_within.f a b c = some (decide (b ≤ a ∧ a ≤ c)) := by
  unfold impl_within.f
  by_cases h : b ≤ a
  · rw [if_pos h]; simp [h]
  · rw [if_neg h]; simp [h]

theorem inrange_eq (a b c : Int) : spec_inRange.f a b c = some (decide (b ≤ a ∧ a ≤ c)) := by
  unfold spec_inRange.f
  by_cases h : b ≤ a
  · rw [if_pos h]; simp [h]
  · rw [if_neg h]; simp [h]

theorem spec_total_loop {S : List Int} (hb : Bd S (-1000000) 1000000) (hl : (S.length : Int) ≤ 1000000) (d : Nat) : ∀ (k : Nat) (i acc : Int), i + d = (S.length : Int) → 0 ≤ i → d + 1 ≤ k → -1000000 * i ≤ acc → acc ≤ 1000000 * i → spec_total.l0 k S acc i = some (acc + sf S i) := by
  induction d with
  | zero =>
    intro k i acc hi h0 hk ha hb'
    obtain ⟨k, rfl⟩ : ∃ m, k = m + 1 := ⟨k - 1, by omega⟩
    rw [spec_total.l0, if_neg (by omega), sf_end (by omega)]
    simp
  | succ d ih =>
    intro k i acc hi h0 hk ha hb'
    obtain ⟨k, rfl⟩ : ∃ m, k = m + 1 := ⟨k - 1, by omega⟩
    have h1 := hb i h0 (by omega)
    rw [spec_total.l0, if_pos (by omega), if_pos h0, w64 (n := acc + rd S i) (by omega) (by omega), w64 (n := i + 1) (by omega) (by omega), ih k (i + 1) (acc + rd S i) (by omega) (by omega) (by omega) (by omega) (by omega), sf_step h0 (by omega)]
    congr 1
    omega
theorem spec_total_ok {S : List Int} (hb : Bd S (-1000000) 1000000) (hl : (S.length : Int) ≤ 1000000) (k : Nat) (hk : S.length + 1 ≤ k) : spec_total.f k S = some S.sum := by
  unfold spec_total.f
  have h := spec_total_loop hb hl S.length k 0 0 (by omega) (by omega) hk (by omega) (by omega)
  rw [Int.zero_add, sf_zero] at h
  exact h

theorem impl_sum_loop {S : List Int} (hb : Bd S (-1000000) 1000000) (hl : (S.length : Int) ≤ 1000000) (d : Nat) : ∀ (k : Nat) (i acc : Int), i + d = (S.length : Int) → 0 ≤ i → d + 1 ≤ k → -1000000 * i ≤ acc → acc ≤ 1000000 * i → impl_sum.l0 k acc S (S.length : Int) i = some (acc + sf S i) := by
  induction d with
  | zero =>
    intro k i acc hi h0 hk ha hb'
    obtain ⟨k, rfl⟩ : ∃ m, k = m + 1 := ⟨k - 1, by omega⟩
    rw [impl_sum.l0, if_neg (by omega), sf_end (by omega)]
    simp
  | succ d ih =>
    intro k i acc hi h0 hk ha hb'
    obtain ⟨k, rfl⟩ : ∃ m, k = m + 1 := ⟨k - 1, by omega⟩
    have h1 := hb i h0 (by omega)
    rw [impl_sum.l0, if_pos (by omega), if_pos h0, if_pos (by omega), w64 (n := acc + rd S i) (by omega) (by omega), w64 (n := i + 1) (by omega) (by omega), ih k (i + 1) (acc + rd S i) (by omega) (by omega) (by omega) (by omega) (by omega), sf_step h0 (by omega)]
    congr 1
    omega
theorem impl_sum_ok {S : List Int} (hb : Bd S (-1000000) 1000000) (hl : (S.length : Int) ≤ 1000000) (k : Nat) (hk : S.length + 1 ≤ k) : impl_sum.f k S = some S.sum := by
  unfold impl_sum.f
  have h := impl_sum_loop hb hl S.length k 0 0 (by omega) (by omega) hk (by omega) (by omega)
  rw [Int.zero_add, sf_zero] at h
  exact h

theorem rd_set {L : List Int} {i j v : Int} (i0 : 0 ≤ i) (i1 : i < (L.length : Int)) (j0 : 0 ≤ j) : rd (L.set i.toNat v) j = if j = i then v else rd L j := by
  unfold rd
  rw [List.getD_eq_getElem?_getD, List.getD_eq_getElem?_getD, List.getElem?_set]
  by_cases h : j = i
  · rw [if_pos h, if_pos (by omega), if_pos (by omega)]
    rfl
  · rw [if_neg h, if_neg (by omega)]
theorem set_same {L : List Int} {i : Int} (i0 : 0 ≤ i) (i1 : i < (L.length : Int)) : L.set i.toNat (rd L i) = L := by
  rw [rd_get i0 i1]
  exact List.set_getElem_self _
theorem pre_set {L : List Int} {i v : Int} (i0 : 0 ≤ i) (i1 : i < (L.length : Int)) (j : Nat) (hj : (j : Int) ≤ (L.length : Int)) : pre (L.set i.toNat v) (j : Int) = if i < (j : Int) then pre L (j : Int) + (v - rd L i) else pre L (j : Int) := by
  induction j with
  | zero =>
    rw [if_neg (by omega)]
    simp [pre]
  | succ j ih =>
    have ih := ih (by omega)
    rw [show ((j + 1 : Nat) : Int) = (j : Int) + 1 from by omega, pre_step (by omega) (by rw [List.length_set]; omega), pre_step (by omega) (by omega), ih, rd_set i0 i1 (by omega)]
    have hr : (j : Int) = i → rd L (j : Int) = rd L i := fun h => by rw [h]
    repeat' split
    all_goals first
      | omega
      | (have := hr (by assumption); omega)
/-- What 'taken' does: from place i on, d places in a direction, no pane below its least size. -/
def tk (M : List Int) (dir : Int) : Nat → Int → Int → List Int → List Int × Int
  | 0, _, left, L => (L, left)
  | d + 1, i, left, L => tk M dir d (i + dir) (left - min left (rd L i - rd M i)) (L.set i.toNat (rd L i - min left (rd L i - rd M i)))
abbrev okv (dir : Int) (d : Nat) (i n : Int) : Prop := (dir = 1 ∧ 0 ≤ i ∧ i + d ≤ n) ∨ (dir = -1 ∧ i < n ∧ 0 ≤ i + 1 - d)
def Iv (M L : List Int) : Prop := ∀ j : Int, 0 ≤ j → j < (L.length : Int) → 0 ≤ rd M j ∧ rd M j ≤ rd L j ∧ rd L j ≤ 100000
theorem Iv.set {M L : List Int} (h : Iv M L) {i t : Int} (i0 : 0 ≤ i) (i1 : i < (L.length : Int)) (h1 : rd M i ≤ t) (h2 : t ≤ 100000) : Iv M (L.set i.toNat t) := by
  intro j j0 j1
  rw [List.length_set] at j1
  rw [rd_set i0 i1 j0]
  have := h j j0 j1
  by_cases e : j = i
  · rw [if_pos e, e]
    rw [e] at this
    omega
  · rw [if_neg e]
    exact this
theorem tk_zero {M : List Int} {dir : Int} (d : Nat) : ∀ (i : Int) (L : List Int), okv dir d i (L.length : Int) → Iv M L → tk M dir d i 0 L = (L, 0) := by
  induction d with
  | zero => intro i L _ _; rfl
  | succ d ih =>
    intro i L ho hv
    have i0 : 0 ≤ i := by omega
    have i1 : i < (L.length : Int) := by omega
    have h1 := hv i i0 i1
    rw [tk, show min 0 (rd L i - rd M i) = 0 from by omega, Int.sub_zero, Int.sub_zero, set_same i0 i1]
    exact ih (i + dir) L (by omega) hv
structure TK (M : List Int) (dir : Int) (d : Nat) (i left : Int) (L : List Int) (R : List Int × Int) : Prop where
  len : R.1.length = L.length
  lo : 0 ≤ R.2
  hi : R.2 ≤ left
  each : ∀ j : Int, 0 ≤ j → j < (L.length : Int) → rd M j ≤ rd R.1 j ∧ rd R.1 j ≤ rd L j
  far : ∀ j : Int, 0 ≤ j → j < (L.length : Int) → (dir = 1 ∧ j < i ∨ dir = -1 ∧ i < j) → rd R.1 j = rd L j
  full : 0 < R.2 → ∀ j : Int, 0 ≤ j → j < (L.length : Int) → (dir = 1 ∧ i ≤ j ∧ j < i + d ∨ dir = -1 ∧ j ≤ i ∧ i - d < j) → rd R.1 j = rd M j
  pa : ∀ j : Nat, (j : Int) ≤ (L.length : Int) → (dir = 1 ∧ (j : Int) ≤ i ∨ dir = -1 ∧ (j : Int) ≤ i + 1 - d) → pre R.1 (j : Int) = pre L (j : Int)
  pb : ∀ j : Nat, (j : Int) ≤ (L.length : Int) → (dir = 1 ∧ i + d ≤ (j : Int) ∨ dir = -1 ∧ i + 1 ≤ (j : Int)) → pre R.1 (j : Int) = pre L (j : Int) - (left - R.2)
theorem tk_tells {M : List Int} {dir : Int} (d : Nat) : ∀ (i left : Int) (L : List Int), okv dir d i (L.length : Int) → Iv M L → 0 ≤ left → TK M dir d i left L (tk M dir d i left L) := by
  induction d with
  | zero =>
    intro i left L ho hv hl
    refine ⟨rfl, hl, Int.le_refl _, fun j j0 j1 => ?_, fun j j0 j1 _ => rfl, fun _ j j0 j1 q => ?_, fun j j1 _ => rfl, fun j j1 _ => ?_⟩
    · have := hv j j0 j1
      exact ⟨this.2.1, Int.le_refl _⟩
    · exfalso; omega
    · show pre L (j : Int) = pre L (j : Int) - (left - left)
      omega
  | succ d ih =>
    intro i left L ho hv hl
    have i0 : 0 ≤ i := by omega
    have i1 : i < (L.length : Int) := by omega
    have h1 := hv i i0 i1
    rw [tk]
    obtain ⟨t, ht⟩ : ∃ t, min left (rd L i - rd M i) = t := ⟨_, rfl⟩
    rw [ht]
    have T := ih (i + dir) (left - t) (L.set i.toNat (rd L i - t)) (by rw [List.length_set]; omega) (hv.set i0 i1 (by omega) (by omega)) (by omega)
    generalize tk M dir d (i + dir) (left - t) (L.set i.toNat (rd L i - t)) = R at T
    obtain ⟨a1, a2, a3, a4, a5, a6, a7, a8⟩ := T
    rw [List.length_set] at a1 a4 a5 a6 a7 a8
    have hs : ∀ j : Int, 0 ≤ j → rd (L.set i.toNat (rd L i - t)) j = if j = i then rd L i - t else rd L j := fun j j0 => rd_set i0 i1 j0
    refine ⟨a1, a2, by omega, fun j j0 j1 => ?_, fun j j0 j1 q => ?_, fun q j j0 j1 p => ?_, fun j j1 q => ?_, fun j j1 q => ?_⟩
    · have := a4 j j0 j1
      rw [hs j j0] at this
      by_cases e : j = i
      · rw [if_pos e] at this
        rw [e] at this ⊢
        omega
      · rw [if_neg e] at this
        exact this
    · have := a5 j j0 j1 (by omega)
      rw [hs j j0, if_neg (by omega)] at this
      exact this
    · by_cases e : j = i
      · have := a4 j j0 j1
        rw [hs j j0, if_pos e] at this
        rw [e] at this ⊢
        omega
      · exact a6 q j j0 j1 (by omega)
    · rw [a7 j j1 (by omega), pre_set i0 i1 j j1, if_neg (by omega)]
    · rw [a8 j j1 (by omega), pre_set i0 i1 j j1, if_pos (by omega)]
      omega
theorem tk_set {M : List Int} {dir : Int} (s v : Int) (s0 : 0 ≤ s) (d : Nat) : ∀ (i left : Int) (L : List Int), okv dir d i (L.length : Int) → s < (L.length : Int) → (dir = 1 ∧ s < i ∨ dir = -1 ∧ i < s) → tk M dir d i left (L.set s.toNat v) = ((tk M dir d i left L).1.set s.toNat v, (tk M dir d i left L).2) := by
  induction d with
  | zero => intro i left L _ _ _; rfl
  | succ d ih =>
    intro i left L ho s1 hs
    have i0 : 0 ≤ i := by omega
    rw [tk, tk, rd_set s0 s1 i0, if_neg (by omega), List.set_comm _ _ (by omega)]
    exact ih (i + dir) _ _ (by rw [List.length_set]; omega) (by rw [List.length_set]; omega) (by omega)

/-- One more for each that has a weight, from the first on, as long as some are missing. -/
def bump : List Int → List Int → Int → List Int
  | w :: W, o :: O, m => if 0 < w ∧ 0 < m then (o + 1) :: bump W O (m - 1) else o :: bump W O m
  | [], O, _ => O
  | _ :: _, [], _ => []
/-- How many have a weight. -/
def posn : List Int → Int
  | [] => 0
  | w :: W => (if 0 < w then 1 else 0) + posn W
theorem posn_nonneg (W : List Int) : 0 ≤ posn W := by
  induction W with
  | nil => exact Int.le_refl 0
  | cons w W ih =>
    rw [posn]
    split <;> omega
theorem bump_len (W : List Int) : ∀ (O : List Int) (m : Int), (bump W O m).length = O.length := by
  induction W with
  | nil => intro O m; cases O <;> rfl
  | cons w W ih =>
    intro O m
    cases O with
    | nil => rfl
    | cons o O =>
      rw [bump]
      split
      · rw [List.length_cons, List.length_cons, ih]
      · rw [List.length_cons, List.length_cons, ih]
theorem bump_none (W : List Int) : ∀ (O : List Int) (m : Int), m ≤ 0 → bump W O m = O := by
  induction W with
  | nil => intro O m _; cases O <;> rfl
  | cons w W ih =>
    intro O m h
    cases O with
    | nil => rfl
    | cons o O =>
      rw [bump, if_neg (by omega), ih O m h]
theorem bump_sum (W : List Int) : ∀ (O : List Int) (m : Int), W.length = O.length → 0 ≤ m → m ≤ posn W → (bump W O m).sum = O.sum + m := by
  induction W with
  | nil =>
    intro O m hl h0 h1
    have e : O = [] := List.length_eq_zero_iff.1 hl.symm
    subst e
    rw [posn] at h1
    simp [bump]
    omega
  | cons w W ih =>
    intro O m hl h0 h1
    cases O with
    | nil => cases hl
    | cons o O =>
      have hl' : W.length = O.length := by simpa using hl
      rw [posn] at h1
      rw [bump]
      split
      · rw [List.sum_cons, List.sum_cons, ih O (m - 1) hl' (by omega) (by split at h1 <;> omega)]
        omega
      · rw [List.sum_cons, List.sum_cons]
        by_cases hm : m = 0
        · subst hm
          rw [bump_none W O 0 (by omega)]
          omega
        · rw [ih O m hl' h0 (by split at h1 <;> omega)]
          omega
/-- Each part, by how much it has been raised. -/
theorem bump_each (W : List Int) : ∀ (O : List Int) (m : Int) (j : Nat), (bump W O m).getD j 0 = O.getD j 0 ∨ ((bump W O m).getD j 0 = O.getD j 0 + 1 ∧ 0 < W.getD j 0) := by
  induction W with
  | nil => intro O m j; cases O <;> exact .inl rfl
  | cons w W ih =>
    intro O m j
    cases O with
    | nil => exact .inl rfl
    | cons o O =>
      rw [bump]
      split
      · cases j with
        | zero => exact .inr ⟨rfl, by simp; omega⟩
        | succ j => simpa using ih O (m - 1) j
      · cases j with
        | zero => exact .inl rfl
        | succ j => simpa using ih O m j
/-- The parts of a number by weights, each without its rest. -/
def parts (n s : Int) (W : List Int) : List Int := W.map fun w => n * w / s
/-- The rests of the parts. -/
def rests (n s : Int) (W : List Int) : Int := (W.map fun w => n * w % s).sum
theorem parts_rests (n s : Int) (W : List Int) : n * W.sum = s * (parts n s W).sum + rests n s W := by
  induction W with
  | nil => simp [parts, rests]
  | cons w W ih =>
    unfold parts rests at *
    rw [List.map_cons, List.map_cons, List.sum_cons, List.sum_cons, List.sum_cons, Int.mul_add, Int.mul_add, ih]
    have := Int.mul_ediv_add_emod (n * w) s
    omega
theorem rests_range {n s : Int} (hs : 1 ≤ s) (W : List Int) (hW : ∀ w ∈ W, 0 ≤ w) : 0 ≤ rests n s W ∧ rests n s W ≤ (s - 1) * posn W := by
  induction W with
  | nil => simp [rests, posn]
  | cons w W ih =>
    have h := ih (fun x hx => hW x (List.mem_cons_of_mem w hx))
    have h0 := hW w List.mem_cons_self
    have h1 := Int.emod_nonneg (n * w) (b := s) (by omega)
    have h2 := Int.emod_lt_of_pos (n * w) (b := s) (by omega)
    unfold rests at *
    rw [List.map_cons, List.sum_cons, posn, Int.mul_add]
    by_cases hw : 0 < w
    · rw [if_pos hw]
      omega
    · rw [if_neg hw]
      have e : w = 0 := by omega
      subst e
      simp at *
      omega
theorem missing_range {n s : Int} {W : List Int} (hs : 1 ≤ s) (he : W.sum = s) (hW : ∀ w ∈ W, 0 ≤ w) : 0 ≤ n - (parts n s W).sum ∧ n - (parts n s W).sum ≤ posn W := by
  have h1 := parts_rests n s W
  have h2 := rests_range (n := n) hs W hW
  have h3 := posn_nonneg W
  rw [he] at h1
  have e : s * (n - (parts n s W).sum) = rests n s W := by
    rw [Int.mul_sub, Int.mul_comm s n]
    omega
  generalize n - (parts n s W).sum = m at *
  constructor
  · by_cases h : 0 ≤ m
    · exact h
    · exfalso
      have := Int.mul_le_mul_of_nonneg_left (show m ≤ -1 from by omega) (show 0 ≤ s from by omega)
      omega
  · by_cases h : m ≤ posn W
    · exact h
    · exfalso
      have h4 := Int.mul_le_mul_of_nonneg_left (show posn W + 1 ≤ m from by omega) (show 0 ≤ s from by omega)
      rw [Int.mul_add] at h4
      rw [Int.sub_mul] at h2
      omega

/-- The parts that SpreadBy tells. -/
def spreadF (n : Int) (W : List Int) : List Int := if W.sum = 0 then (List.replicate W.length 0).set (W.length - 1) n else bump W (parts n W.sum W) (n - (parts n W.sum W).sum)
theorem bd_mem {W : List Int} {a b : Int} (h : Bd W a b) : ∀ w ∈ W, a ≤ w ∧ w ≤ b := by
  intro w hw
  obtain ⟨i, hi, rfl⟩ := List.getElem_of_mem hw
  have := h i (by omega) (by omega)
  rw [rd_get (by omega) (by omega)] at this
  simpa using this
theorem parts_len (n s : Int) (W : List Int) : (parts n s W).length = W.length := by
  unfold parts
  rw [List.length_map]
theorem rd_parts {n s : Int} {W : List Int} {i : Int} (h0 : 0 ≤ i) (h1 : i < (W.length : Int)) : rd (parts n s W) i = n * rd W i / s := by
  have hl := parts_len n s W
  rw [rd_get h0 (by omega), rd_get h0 h1]
  unfold parts
  rw [List.getElem_map]
theorem fill_set {L : List Int} {i d : Nat} (hi : i + (d + 1) = L.length) : (L.take i ++ List.replicate (d + 1) 0).set (i : Int).toNat (rd L i) = L.take (i + 1) ++ List.replicate d 0 := by
  rw [Int.toNat_natCast, List.replicate_succ, List.set_append_right _ _ (by rw [List.length_take]; omega), List.length_take, show i - min i L.length = 0 from by omega, List.set_cons_zero, List.take_succ_eq_append_getElem (by omega), rd_get (by omega) (by omega), List.append_assoc]
  rfl
theorem fill_len {L : List Int} {i d : Nat} (hi : i + d = L.length) : ((L.take i ++ List.replicate d (0 : Int)).length : Int) = L.length := by
  rw [List.length_append, List.length_take, List.length_replicate]
  omega
theorem fill_rd {L : List Int} {i d : Nat} (hi : i + d = L.length) {j : Int} (j0 : 0 ≤ j) (j1 : j < i) : rd (L.take i ++ List.replicate d (0 : Int)) j = rd L j := by
  have hl := fill_len hi
  rw [rd_get j0 (by omega), rd_get j0 (by omega), List.getElem_append_left (by rw [List.length_take]; omega), List.getElem_take]
/-- What a part is, and how great. -/
theorem part_val {n s w : Int} (hn : 0 ≤ n ∧ n ≤ 400) (hw : 0 ≤ w ∧ w ≤ 5) (hs : 1 ≤ s) : wrap64 (Int.tdiv (wrap64 (n * w)) s) = n * w / s ∧ 0 ≤ n * w / s ∧ n * w / s ≤ 2000 := by
  have h1 := mul_range hn.1 hn.2 hw.1 hw.2
  have h2 := div_range (a := n * w) (b := s) h1.1 (by omega)
  rw [w64 (n := n * w) (by omega) (by omega), td2 h1.1, w64 (n := n * w / s) (by omega) (by omega)]
  omega
theorem posn_drop {W : List Int} {i : Nat} (h : i < W.length) : posn (W.drop i) = (if 0 < rd W i then 1 else 0) + posn (W.drop (i + 1)) := by
  rw [List.drop_eq_getElem_cons h, posn, rd_get (by omega) (by omega)]
  rfl
theorem bump_step {W O : List Int} {i : Nat} (hl : O.length = W.length) (h : i < W.length) (m : Int) : O.take i ++ bump (W.drop i) (O.drop i) m = if 0 < rd W i ∧ 0 < m then (O.set (i : Int).toNat (rd O i + 1)).take (i + 1) ++ bump (W.drop (i + 1)) ((O.set (i : Int).toNat (rd O i + 1)).drop (i + 1)) (m - 1) else O.take (i + 1) ++ bump (W.drop (i + 1)) (O.drop (i + 1)) m := by
  have e1 : O.drop i = rd O i :: O.drop (i + 1) := by
    rw [List.drop_eq_getElem_cons (by omega), rd_get (by omega) (by omega)]
    rfl
  have e2 : W.drop i = rd W i :: W.drop (i + 1) := by
    rw [List.drop_eq_getElem_cons (by omega), rd_get (by omega) (by omega)]
    rfl
  have e3 : O.take (i + 1) = O.take i ++ [rd O i] := by
    rw [List.take_succ_eq_append_getElem (by omega), rd_get (by omega) (by omega)]
    rfl
  have e4 : (O.set (i : Int).toNat (rd O i + 1)).take (i + 1) = O.take i ++ [rd O i + 1] := by
    rw [Int.toNat_natCast, List.take_succ_eq_append_getElem (by rw [List.length_set]; omega), List.getElem_set_self, List.take_set_of_le (by omega)]
  have e5 : (O.set (i : Int).toNat (rd O i + 1)).drop (i + 1) = O.drop (i + 1) := by
    rw [Int.toNat_natCast, List.drop_set_of_lt (by omega)]
  rw [e1, e2, bump, e3, e4, e5]
  split
  · rw [List.append_assoc]
    rfl
  · rw [List.append_assoc]
    rfl

theorem impl_spread_raise {W : List Int} (hW : Bd W 0 5) (hl5 : (W.length : Int) ≤ 5) (d : Nat) : ∀ (k i : Nat) (O : List Int) (m : Int), i + d = W.length → O.length = W.length → d + 1 ≤ k → 0 ≤ m → m ≤ 1000000 → (∀ j : Int, i ≤ j → j < (W.length : Int) → 0 ≤ rd O j ∧ rd O j ≤ 1000000) → impl_spread.l1 k O m W (W.length : Int) (i : Int) = some (O.take i ++ bump (W.drop i) (O.drop i) m) := by
  induction d with
  | zero =>
    intro k i O m hi hl hk m0 m1 hO
    obtain ⟨k, rfl⟩ : ∃ m, k = m + 1 := ⟨k - 1, by omega⟩
    rw [impl_spread.l1, if_neg (by omega), List.take_of_length_le (by omega), List.drop_eq_nil_of_le (show O.length ≤ i from by omega), List.drop_eq_nil_of_le (show W.length ≤ i from by omega)]
    simp [bump]
  | succ d ih =>
    intro k i O m hi hl hk m0 m1 hO
    obtain ⟨k, rfl⟩ : ∃ m, k = m + 1 := ⟨k - 1, by omega⟩
    have hw := hW i (by omega) (by omega)
    have ho := hO i (by omega) (by omega)
    rw [bump_step hl (by omega), impl_spread.l1, if_pos (by omega), if_pos (by omega), if_pos (by omega), w64 (n := (i : Int) + 1) (by omega) (by omega), show (i : Int) + 1 = ((i + 1 : Nat) : Int) from by omega]
    by_cases w0 : rd W i = 0
    · rw [if_pos w0, if_neg (by omega)]
      exact ih k (i + 1) O m (by omega) hl (by omega) m0 m1 (fun j j0 j1 => hO j (by omega) j1)
    · rw [if_neg w0]
      by_cases hm : m > 0
      · rw [if_pos hm, if_pos (by omega), if_pos (by omega), w64 (n := m - 1) (by omega) (by omega), w64 (n := rd O i + 1) (by omega) (by omega)]
        refine ih k (i + 1) _ (m - 1) (by omega) (by rw [List.length_set]; exact hl) (by omega) (by omega) (by omega) (fun j j0 j1 => ?_)
        rw [rd_set (by omega) (by omega) (by omega), if_neg (by omega)]
        exact hO j (by omega) j1
      · rw [if_neg hm, if_neg (by omega)]
        exact ih k (i + 1) O m (by omega) hl (by omega) m0 m1 (fun j j0 j1 => hO j (by omega) j1)
theorem impl_spread_parts {n s : Int} {W : List Int} (hn : 0 ≤ n ∧ n ≤ 400) (hs : 1 ≤ s) (hW : Bd W 0 5) (hl5 : (W.length : Int) ≤ 5) (d : Nat) : ∀ (k i : Nat), i + d = W.length → impl_spread.l0 (k + d + 1) n W ((parts n s W).take i ++ List.replicate d 0) s W (W.length : Int) (i : Int) = (impl_sum.f k (parts n s W)).bind fun t => impl_spread.l1 k (parts n s W) (wrap64 (n - t)) W (W.length : Int) 0 := by
  have hpl := parts_len n s W
  induction d with
  | zero =>
    intro k i hi
    rw [impl_spread.l0, if_neg (by omega), List.take_of_length_le (by omega)]
    simp
  | succ d ih =>
    intro k i hi
    have hw := hW i (by omega) (by omega)
    have hp := part_val hn hw hs
    rw [show k + (d + 1) + 1 = (k + d + 1) + 1 from by omega, impl_spread.l0, if_pos (by omega), if_pos (by omega), if_pos (by omega), if_neg (by omega), if_pos (by rw [fill_len (by omega)]; omega), hp.1, ← rd_parts (by omega) (by omega), fill_set (by omega), w64 (n := (i : Int) + 1) (by omega) (by omega), show (i : Int) + 1 = ((i + 1 : Nat) : Int) from by omega]
    exact ih k (i + 1) (by omega)
theorem impl_spread_ok {n : Int} {W : List Int} (hn : 0 ≤ n ∧ n ≤ 400) (hW : Bd W 0 5) (h1 : 1 ≤ (W.length : Int)) (h5 : (W.length : Int) ≤ 5) (k : Nat) (hk : 20 ≤ k) : impl_spread.f k n W = some (spreadF n W) := by
  have hs := (sf_range hW W.length 0 (by omega) (by omega))
  rw [sf_zero] at hs
  have hpl := parts_len n W.sum W
  unfold impl_spread.f
  rw [if_pos (by omega), if_pos (by omega), Option.bind_some, impl_sum_ok (fun j a b => by have := hW j a b; omega) (by omega) k (by omega), Option.bind_some, List.length_replicate, Int.toNat_natCast, w64 (n := (W.length : Int) - 1) (by omega) (by omega)]
  unfold spreadF
  by_cases h0 : W.sum = 0
  · rw [if_pos h0, if_pos h0, if_pos (by omega), if_pos (by omega), show ((W.length : Int) - 1).toNat = W.length - 1 from by omega]
  · rw [if_neg h0, if_neg h0]
    have hp : Bd (parts n W.sum W) 0 2000 := fun j j0 j1 => by
      rw [rd_parts j0 (by omega)]
      exact (part_val hn (hW j j0 (by omega)) (by omega)).2
    have hm := missing_range (n := n) (s := W.sum) (by omega) rfl (fun w hw => (bd_mem hW w hw).1)
    have hps := (sf_range hp W.length 0 (by omega) (by omega))
    rw [sf_zero] at hps
    have e := impl_spread_parts hn (s := W.sum) (by omega) hW h5 W.length (k - W.length - 1) 0 (by omega)
    rw [show k - W.length - 1 + W.length + 1 = k from by omega, impl_sum_ok (fun j a b => by have := hp j a b; omega) (by omega) _ (by omega), Option.bind_some, w64 (n := n - (parts n W.sum W).sum) (by omega) (by omega)] at e
    rw [List.take_zero, List.nil_append, Int.natCast_zero] at e
    rw [e]
    have := impl_spread_raise hW h5 W.length (k - W.length - 1) 0 (parts n W.sum W) (n - (parts n W.sum W).sum) (by omega) hpl (by omega) hm.1 (by omega) (fun j j0 j1 => by have := hp j (by omega) (by omega); omega)
    simpa using this

theorem spec_spread_raise {W : List Int} (hW : Bd W 0 5) (hl5 : (W.length : Int) ≤ 5) (d : Nat) : ∀ (k i : Nat) (O : List Int) (m : Int), i + d = W.length → O.length = W.length → d + 1 ≤ k → 0 ≤ m → m ≤ posn (W.drop i) → m ≤ 1000000 → (∀ j : Int, i ≤ j → j < (W.length : Int) → 0 ≤ rd O j ∧ rd O j ≤ 1000000) → spec_spread.l1 k W O m (i : Int) = some (O.take i ++ bump (W.drop i) (O.drop i) m) := by
  induction d with
  | zero =>
    intro k i O m hi hl hk m0 mp m1 hO
    obtain ⟨k, rfl⟩ : ∃ m, k = m + 1 := ⟨k - 1, by omega⟩
    rw [List.drop_eq_nil_of_le (show W.length ≤ i from by omega), posn] at mp
    rw [spec_spread.l1, if_neg (by omega), List.take_of_length_le (by omega), List.drop_eq_nil_of_le (show O.length ≤ i from by omega), List.drop_eq_nil_of_le (show W.length ≤ i from by omega)]
    simp [bump]
  | succ d ih =>
    intro k i O m hi hl hk m0 mp m1 hO
    obtain ⟨k, rfl⟩ : ∃ m, k = m + 1 := ⟨k - 1, by omega⟩
    have hw := hW i (by omega) (by omega)
    have ho := hO i (by omega) (by omega)
    rw [posn_drop (by omega)] at mp
    by_cases hm : m > 0
    · rw [bump_step hl (by omega), spec_spread.l1, if_pos hm, if_pos (by omega), if_pos (by omega), w64 (n := (i : Int) + 1) (by omega) (by omega), show (i : Int) + 1 = ((i + 1 : Nat) : Int) from by omega]
      by_cases w0 : rd W i > 0
      · rw [if_pos w0, if_pos (by omega), if_pos (by omega), w64 (n := m - 1) (by omega) (by omega), w64 (n := rd O i + 1) (by omega) (by omega)]
        rw [if_pos w0] at mp
        refine ih k (i + 1) _ (m - 1) (by omega) (by rw [List.length_set]; exact hl) (by omega) (by omega) (by omega) (by omega) (fun j j0 j1 => ?_)
        rw [rd_set (by omega) (by omega) (by omega), if_neg (by omega)]
        exact hO j (by omega) j1
      · rw [if_neg w0, if_neg (by omega)]
        rw [if_neg w0] at mp
        exact ih k (i + 1) O m (by omega) hl (by omega) m0 (by omega) m1 (fun j j0 j1 => hO j (by omega) j1)
    · rw [spec_spread.l1, if_neg hm, bump_none _ _ _ (by omega), List.take_append_drop]
theorem spec_spread_parts {n s : Int} {W : List Int} (hn : 0 ≤ n ∧ n ≤ 400) (hs : 1 ≤ s) (hW : Bd W 0 5) (hl5 : (W.length : Int) ≤ 5) (d : Nat) : ∀ (k i : Nat) (left : Int), i + d = W.length → left = n - pre (parts n s W) i → -100000 + 2000 * d ≤ left → left ≤ 100000 → spec_spread.l0 (k + d + 1) n W ((parts n s W).take i ++ List.replicate d 0) s left (i : Int) = spec_spread.l1 k W (parts n s W) (n - (parts n s W).sum) 0 := by
  have hpl := parts_len n s W
  induction d with
  | zero =>
    intro k i left hi hleft _ _
    rw [pre_end (by omega)] at hleft
    have e : (parts n s W).take i ++ List.replicate 0 0 = parts n s W := by
      rw [List.take_of_length_le (by omega)]
      simp
    rw [e, spec_spread.l0, if_neg (by omega), hleft]
  | succ d ih =>
    intro k i left hi hleft hl0 hl1
    have hw := hW i (by omega) (by omega)
    have hp := part_val hn hw hs
    rw [show k + (d + 1) + 1 = (k + d + 1) + 1 from by omega, spec_spread.l0, if_pos (by rw [fill_len (by omega)]; omega), if_pos (by omega), if_pos (by omega), if_neg (by omega), Option.bind_some, hp.1, ← rd_parts (by omega) (by omega), fill_set (by omega), fill_rd (by omega) (by omega) (by omega), w64 (n := (i : Int) + 1) (by omega) (by omega), show (i : Int) + 1 = ((i + 1 : Nat) : Int) from by omega]
    rw [rd_parts (by omega) (by omega)]
    rw [w64 (n := left - n * rd W i / s) (by omega) (by omega)]
    refine ih k (i + 1) _ (by omega) ?_ (by omega) (by omega)
    rw [hleft, show ((i + 1 : Nat) : Int) = (i : Int) + 1 from by omega, pre_step (by omega) (by omega), rd_parts (by omega) (by omega)]
    omega
theorem spec_spread_ok {n : Int} {W : List Int} (hn : 0 ≤ n ∧ n ≤ 400) (hW : Bd W 0 5) (h1 : 1 ≤ (W.length : Int)) (h5 : (W.length : Int) ≤ 5) (k : Nat) (hk : 20 ≤ k) : spec_spread.f k n W = some (spreadF n W) := by
  have hs := (sf_range hW W.length 0 (by omega) (by omega))
  rw [sf_zero] at hs
  have hpl := parts_len n W.sum W
  unfold spec_spread.f
  rw [if_pos (by omega), if_pos (by omega), Option.bind_some, spec_total_ok (fun j a b => by have := hW j a b; omega) (by omega) k (by omega), Option.bind_some, List.length_replicate, Int.toNat_natCast, w64 (n := (W.length : Int) - 1) (by omega) (by omega)]
  unfold spreadF
  by_cases h0 : W.sum = 0
  · rw [if_pos h0, if_pos h0, if_pos (by omega), if_pos (by omega), if_pos (by omega), show ((W.length : Int) - 1).toNat = W.length - 1 from by omega]
  · rw [if_neg h0, if_neg h0]
    have hp : Bd (parts n W.sum W) 0 2000 := fun j j0 j1 => by
      rw [rd_parts j0 (by omega)]
      exact (part_val hn (hW j j0 (by omega)) (by omega)).2
    have hm := missing_range (n := n) (s := W.sum) (by omega) rfl (fun w hw => (bd_mem hW w hw).1)
    have hps := (sf_range hp W.length 0 (by omega) (by omega))
    rw [sf_zero] at hps
    have e := spec_spread_parts hn (s := W.sum) (by omega) hW h5 W.length (k - W.length - 1) 0 n (by omega) (by rw [show ((0 : Nat) : Int) = 0 from rfl, pre_zero]; omega) (by omega) (by omega)
    rw [show k - W.length - 1 + W.length + 1 = k from by omega] at e
    rw [List.take_zero, List.nil_append, Int.natCast_zero] at e
    rw [e]
    have := spec_spread_raise hW h5 W.length (k - W.length - 1) 0 (parts n W.sum W) (n - (parts n W.sum W).sum) (by omega) hpl (by omega) hm.1 hm.2 (by omega) (fun j j0 j1 => by have := hp j (by omega) (by omega); omega)
    simpa using this

theorem contains_loop {l : List Int} (hl : (l.length : Int) ≤ 1048576) (d : Nat) : ∀ (k i : Nat), i + d = l.length → d + 1 ≤ k → ∃ r, slices_IndexFunc_int_int.l0 k l (l.length : Int) (i : Int) = some r ∧ ((r < 0 ∧ ∀ j : Int, i ≤ j → j < (l.length : Int) → 0 ≤ rd l j ∧ rd l j ≤ 5) ∨ (0 ≤ r ∧ ∃ j : Int, i ≤ j ∧ j < (l.length : Int) ∧ ¬ (0 ≤ rd l j ∧ rd l j ≤ 5))) := by
  induction d with
  | zero =>
    intro k i hi hk
    obtain ⟨k, rfl⟩ : ∃ m, k = m + 1 := ⟨k - 1, by omega⟩
    rw [slices_IndexFunc_int_int.l0, if_neg (by omega)]
    exact ⟨_, rfl, .inl ⟨by omega, fun j j0 j1 => by omega⟩⟩
  | succ d ih =>
    intro k i hi hk
    obtain ⟨k, rfl⟩ : ∃ m, k = m + 1 := ⟨k - 1, by omega⟩
    rw [slices_IndexFunc_int_int.l0, if_pos (by omega), if_pos (by omega), if_pos (by omega), impl_SpreadBy_lit.f, within_eq, Option.bind_some, Option.bind_some]
    by_cases h : 0 ≤ rd l i ∧ rd l i ≤ 5
    · obtain ⟨r, e, hr⟩ := ih k (i + 1) (by omega) (by omega)
      rw [decide_eq_true h, if_neg (by decide), w64 (n := (i : Int) + 1) (by omega) (by omega), show (i : Int) + 1 = ((i + 1 : Nat) : Int) from by omega]
      refine ⟨r, e, ?_⟩
      rcases hr with ⟨hr, q⟩ | ⟨hr, j, j0, j1, q⟩
      · refine .inl ⟨hr, fun j j0 j1 => ?_⟩
        by_cases e' : j = i
        · rw [e']; exact h
        · exact q j (by omega) j1
      · exact .inr ⟨hr, j, by omega, j1, q⟩
    · rw [decide_eq_false h, if_pos (by decide)]
      exact ⟨_, rfl, .inr ⟨by omega, i, by omega, by omega, h⟩⟩
theorem contains_ok {l : List Int} (hl : (l.length : Int) ≤ 1048576) (k : Nat) (hk : l.length + 1 ≤ k) (a : Int) : ∃ b, slices_ContainsFunc_int_int.f k l a = some b ∧ (b = false ↔ Bd l 0 5) := by
  obtain ⟨r, e, hr⟩ := contains_loop hl l.length k 0 (by omega) hk
  rw [Int.natCast_zero] at e
  unfold slices_ContainsFunc_int_int.f slices_IndexFunc_int_int.f
  rw [e, Option.bind_some]
  refine ⟨_, rfl, ?_⟩
  rw [decide_eq_false_iff_not]
  constructor
  · intro h
    rcases hr with ⟨_, q⟩ | ⟨hr, _⟩
    · exact fun j j0 j1 => q j (by omega) j1
    · omega
  · intro h
    rcases hr with ⟨hr, _⟩ | ⟨_, j, j0, j1, q⟩
    · omega
    · exact absurd (h j (by omega) j1) q
/-- What SpreadBy takes. -/
def SB (n : Int) (W : List Int) : Prop := (0 ≤ n ∧ n ≤ 400) ∧ (1 ≤ (W.length : Int) ∧ (W.length : Int) ≤ 5) ∧ Bd W 0 5
theorem impl_SpreadBy_ok (n : Int) (W : List Int) (hl : (W.length : Int) ≤ 1048576) (k : Nat) (hk : W.length + 20 ≤ k) : (SB n W ∧ impl_SpreadBy.f k n W = some (spreadF n W)) ∨ (¬ SB n W ∧ impl_SpreadBy.f k n W = some []) := by
  obtain ⟨b, e, hb⟩ := contains_ok hl k (by omega) 0
  unfold impl_SpreadBy.f
  simp only [within_eq, Option.bind_some, decide_eq_true_eq, e]
  by_cases h0 : 0 ≤ n ∧ n ≤ 400
  · rw [if_pos h0]
    by_cases h1 : 1 ≤ (W.length : Int) ∧ (W.length : Int) ≤ 5
    · rw [if_pos h1]
      cases b with
      | true =>
        rw [if_pos rfl]
        refine .inr ⟨fun q => ?_, rfl⟩
        have := hb.2 q.2.2
        cases this
      | false =>
        have hW := hb.1 rfl
        rw [if_neg (by decide), impl_spread_ok h0 hW h1.1 h1.2 k (by omega), Option.bind_some]
        exact .inl ⟨⟨h0, h1, hW⟩, rfl⟩
    · rw [if_neg h1]
      exact .inr ⟨fun q => h1 q.2.1, rfl⟩
  · rw [if_neg h0]
    exact .inr ⟨fun q => h0 q.1, rfl⟩
theorem spec_SpreadBy_loop (n : Int) {W : List Int} (hl : (W.length : Int) ≤ 1048576) (d : Nat) : ∀ (k i : Nat), i + d = W.length → d + 21 ≤ k → (∀ j : Int, 0 ≤ j → j < (i : Int) → 0 ≤ rd W j ∧ rd W j ≤ 5) → (SB n W ∧ spec_SpreadBy.l0 k n W (i : Int) = some (spreadF n W)) ∨ (¬ SB n W ∧ spec_SpreadBy.l0 k n W (i : Int) = some []) := by
  induction d with
  | zero =>
    intro k i hi hk hq
    obtain ⟨k, rfl⟩ : ∃ m, k = m + 1 := ⟨k - 1, by omega⟩
    have hW : Bd W 0 5 := fun j j0 j1 => hq j j0 (by omega)
    rw [spec_SpreadBy.l0, if_neg (by omega)]
    simp only [inrange_eq, Option.bind_some, decide_eq_true_eq]
    by_cases h0 : 0 ≤ n ∧ n ≤ 400
    · rw [if_pos h0]
      by_cases h1 : 1 ≤ (W.length : Int) ∧ (W.length : Int) ≤ 5
      · rw [if_pos h1, spec_spread_ok h0 hW h1.1 h1.2 k (by omega), Option.bind_some]
        exact .inl ⟨⟨h0, h1, hW⟩, rfl⟩
      · rw [if_neg h1]
        exact .inr ⟨fun q => h1 q.2.1, rfl⟩
    · rw [if_neg h0]
      exact .inr ⟨fun q => h0 q.1, rfl⟩
  | succ d ih =>
    intro k i hi hk hq
    obtain ⟨k, rfl⟩ : ∃ m, k = m + 1 := ⟨k - 1, by omega⟩
    rw [spec_SpreadBy.l0, if_pos (by omega), if_pos (by omega), inrange_eq, Option.bind_some]
    by_cases h : 0 ≤ rd W i ∧ rd W i ≤ 5
    · rw [decide_eq_true h, if_pos rfl, w64 (n := (i : Int) + 1) (by omega) (by omega), show (i : Int) + 1 = ((i + 1 : Nat) : Int) from by omega]
      refine ih k (i + 1) (by omega) (by omega) (fun j j0 j1 => ?_)
      by_cases e' : j = i
      · rw [e']; exact h
      · exact hq j j0 (by omega)
    · rw [decide_eq_false h, if_neg (by decide)]
      exact .inr ⟨fun q => h (q.2.2 i (by omega) (by omega)), rfl⟩
theorem spec_SpreadBy_ok (n : Int) (W : List Int) (hl : (W.length : Int) ≤ 1048576) (k : Nat) (hk : W.length + 21 ≤ k) : (SB n W ∧ spec_SpreadBy.f k n W = some (spreadF n W)) ∨ (¬ SB n W ∧ spec_SpreadBy.f k n W = some []) := by
  unfold spec_SpreadBy.f
  have := spec_SpreadBy_loop n hl W.length k 0 (by omega) hk (fun j j0 j1 => by omega)
  rwa [Int.natCast_zero] at this
theorem spreadF_len (n : Int) (W : List Int) : (spreadF n W).length = W.length := by
  unfold spreadF
  split
  · rw [List.length_set, List.length_replicate]
  · rw [bump_len, parts_len]
/-- Both tell the same parts; no more than five. -/
theorem spreads_ok (n : Int) (W : List Int) (hl : (W.length : Int) ≤ 1048576) : ∃ r : List Int, (∀ k, W.length + 21 ≤ k → impl_SpreadBy.f k n W = some r) ∧ (∀ k, W.length + 21 ≤ k → spec_SpreadBy.f k n W = some r) ∧ r.length ≤ 5 ∧ (r = [] ∨ (SB n W ∧ r = spreadF n W)) := by
  by_cases h : SB n W
  · refine ⟨spreadF n W, fun k hk => ?_, fun k hk => ?_, by have := spreadF_len n W; have := h.2.1.2; omega, .inr ⟨h, rfl⟩⟩
    · rcases impl_SpreadBy_ok n W hl k (by omega) with ⟨_, e⟩ | ⟨q, _⟩
      · exact e
      · exact absurd h q
    · rcases spec_SpreadBy_ok n W hl k (by omega) with ⟨_, e⟩ | ⟨q, _⟩
      · exact e
      · exact absurd h q
  · refine ⟨[], fun k hk => ?_, fun k hk => ?_, by simp, .inl rfl⟩
    · rcases impl_SpreadBy_ok n W hl k (by omega) with ⟨q, _⟩ | ⟨_, e⟩
      · exact absurd q h
      · exact e
    · rcases spec_SpreadBy_ok n W hl k (by omega) with ⟨q, _⟩ | ⟨_, e⟩
      · exact absurd q h
      · exact e

theorem laws_total_loop {S : List Int} (hb : Bd S (-1000000) 1000000) (hl : (S.length : Int) ≤ 1000000) (d : Nat) : ∀ (k : Nat) (i acc : Int), i + d = (S.length : Int) → 0 ≤ i → d + 1 ≤ k → -1000000 * i ≤ acc → acc ≤ 1000000 * i → laws_total.l0 k S acc i = some (acc + sf S i) := by
  induction d with
  | zero =>
    intro k i acc hi h0 hk ha hb'
    obtain ⟨k, rfl⟩ : ∃ m, k = m + 1 := ⟨k - 1, by omega⟩
    rw [laws_total.l0, if_neg (by omega), sf_end (by omega)]
    simp
  | succ d ih =>
    intro k i acc hi h0 hk ha hb'
    obtain ⟨k, rfl⟩ : ∃ m, k = m + 1 := ⟨k - 1, by omega⟩
    have h1 := hb i h0 (by omega)
    rw [laws_total.l0, if_pos (by omega), if_pos h0, w64 (n := acc + rd S i) (by omega) (by omega), w64 (n := i + 1) (by omega) (by omega), ih k (i + 1) (acc + rd S i) (by omega) (by omega) (by omega) (by omega) (by omega), sf_step h0 (by omega)]
    congr 1
    omega
theorem laws_total_ok {S : List Int} (hb : Bd S (-1000000) 1000000) (hl : (S.length : Int) ≤ 1000000) (k : Nat) (hk : S.length + 1 ≤ k) : laws_total.f k S = some S.sum := by
  unfold laws_total.f
  have h := laws_total_loop hb hl S.length k 0 0 (by omega) (by omega) hk (by omega) (by omega)
  rw [Int.zero_add, sf_zero] at h
  exact h

theorem equalInts_loop {l : List Int} (hl : (l.length : Int) ≤ 1048576) (d : Nat) : ∀ (k : Nat) (i : Int), i + d = (l.length : Int) → 0 ≤ i → d + 1 ≤ k → laws_equalInts.l0 k l l i = some true := by
  induction d with
  | zero =>
    intro k i hi h0 hk
    obtain ⟨k, rfl⟩ : ∃ m, k = m + 1 := ⟨k - 1, by omega⟩
    rw [laws_equalInts.l0, if_neg (by omega)]
  | succ d ih =>
    intro k i hi h0 hk
    obtain ⟨k, rfl⟩ : ∃ m, k = m + 1 := ⟨k - 1, by omega⟩
    rw [laws_equalInts.l0, if_pos (by omega), if_pos h0, if_pos (by omega), if_pos rfl, w64 (n := i + 1) (by omega) (by omega)]
    exact ih k (i + 1) (by omega) (by omega) (by omega)
theorem equalInts_ok {l : List Int} (hl : (l.length : Int) ≤ 1048576) (k : Nat) (hk : l.length + 1 ≤ k) : laws_equalInts.f k l l = some true := by
  unfold laws_equalInts.f
  rw [if_pos rfl]
  exact equalInts_loop hl l.length k 0 (by omega) (by omega) hk

theorem set_sum {L : List Int} {i v : Int} (i0 : 0 ≤ i) (i1 : i < (L.length : Int)) : (L.set i.toNat v).sum = L.sum + (v - rd L i) := by
  have h := pre_set (v := v) i0 i1 L.length (by omega)
  rw [if_pos i1, pre_end (by rw [List.length_set]; omega), pre_end (by omega)] at h
  exact h
theorem rd_zeros (n : Nat) (j : Int) : rd (List.replicate n (0 : Int)) j = 0 := by
  unfold rd
  rw [List.getD_eq_getElem?_getD, List.getElem?_replicate]
  split <;> rfl
theorem sum_zeros (n : Nat) : (List.replicate n (0 : Int)).sum = 0 := by
  induction n with
  | zero => rfl
  | succ n ih => rw [List.replicate_succ, List.sum_cons, ih, Int.zero_add]
theorem spread_props {n : Int} {W : List Int} (h : SB n W) : (∀ j : Int, 0 ≤ j → j < (W.length : Int) → 0 ≤ rd (spreadF n W) j ∧ rd (spreadF n W) j ≤ 2001 ∧ (W.sum > 0 → (rd W j = 0 → rd (spreadF n W) j ≤ 0) ∧ rd (spreadF n W) j * W.sum ≤ n * rd W j + W.sum ∧ n * rd W j - W.sum ≤ rd (spreadF n W) j * W.sum)) ∧ (spreadF n W).sum = n := by
  obtain ⟨hn, ⟨h1, h5⟩, hW⟩ := h
  have hs := (sf_range hW W.length 0 (by omega) (by omega))
  rw [sf_zero] at hs
  unfold spreadF
  by_cases h0 : W.sum = 0
  · rw [if_pos h0, show W.length - 1 = ((W.length : Int) - 1).toNat from by omega]
    have hl : ((List.replicate W.length (0 : Int)).length : Int) = W.length := by rw [List.length_replicate]
    refine ⟨fun j j0 j1 => ?_, ?_⟩
    · rw [rd_set (by omega) (by omega) j0, rd_zeros]
      refine ⟨?_, ?_, fun q => by omega⟩
      · split <;> omega
      · split <;> omega
    · rw [set_sum (by omega) (by omega), rd_zeros, sum_zeros]
      omega
  · rw [if_neg h0]
    have hpl := parts_len n W.sum W
    have hm := missing_range (n := n) (s := W.sum) (by omega) rfl (fun w hw => (bd_mem hW w hw).1)
    refine ⟨fun j j0 j1 => ?_, ?_⟩
    · have hw := hW j j0 j1
      have hp := part_val hn hw (s := W.sum) (by omega)
      have e1 := Int.mul_ediv_add_emod (n * rd W j) W.sum
      have e2 := Int.emod_nonneg (n * rd W j) (b := W.sum) (by omega)
      have e3 := Int.emod_lt_of_pos (n * rd W j) (b := W.sum) (by omega)
      have q := rd_parts (n := n) (s := W.sum) j0 j1
      have e4 : rd W j = 0 → n * rd W j / W.sum = 0 := by
        intro z
        rw [z]
        simp
      have hb : rd (bump W (parts n W.sum W) (n - (parts n W.sum W).sum)) j = rd (parts n W.sum W) j ∨ (rd (bump W (parts n W.sum W) (n - (parts n W.sum W).sum)) j = rd (parts n W.sum W) j + 1 ∧ 0 < rd W j) := bump_each W (parts n W.sum W) (n - (parts n W.sum W).sum) j.toNat
      rw [q] at hb
      rw [Int.mul_comm] at e1
      generalize n * rd W j / W.sum = x at *
      rcases hb with hb | ⟨hb, hw0⟩
      · rw [hb]
        exact ⟨by omega, by omega, fun _ => ⟨by omega, by omega, by omega⟩⟩
      · rw [hb, Int.add_mul, Int.one_mul]
        exact ⟨by omega, by omega, fun _ => ⟨by omega, by omega, by omega⟩⟩
    · rw [bump_sum W (parts n W.sum W) _ hpl.symm hm.1 hm.2]
      omega

theorem law_loop {n : Int} {W : List Int} (h : SB n W) (d : Nat) : ∀ (k : Nat) (i : Int), i + d = (W.length : Int) → 0 ≤ i → 2 * d + 10 ≤ k → laws_FnSpreadBy.l0 k n W (spreadF n W) W.sum i = some true := by
  have hl := spreadF_len n W
  obtain ⟨hp, ht⟩ := spread_props h
  obtain ⟨hn, ⟨h1, h5⟩, hW⟩ := h
  have hs := (sf_range hW W.length 0 (by omega) (by omega))
  rw [sf_zero] at hs
  induction d with
  | zero =>
    intro k i hi h0 hk
    obtain ⟨k, rfl⟩ : ∃ m, k = m + 1 := ⟨k - 1, by omega⟩
    rw [laws_FnSpreadBy.l0, if_neg (by omega), laws_total_ok (fun j a b => by have := hp j a (by omega); omega) (by omega) k (by omega), Option.bind_some, ht, if_pos rfl, hl, beq_self_eq_true]
  | succ d ih =>
    intro k i hi h0 hk
    obtain ⟨k, rfl⟩ : ∃ m, k = m + 2 := ⟨k - 2, by omega⟩
    have hq := hp i h0 (by omega)
    have hw := hW i h0 (by omega)
    have e : laws_FnSpreadBy.j2 (k + 1) n W (spreadF n W) W.sum i false = some true := by
      rw [laws_FnSpreadBy.j2, if_neg (by decide), w64 (n := i + 1) (by omega) (by omega), ih k (i + 1) (by omega) (by omega) (by omega)]
      by_cases hz : W.sum > 0
      · obtain ⟨_, c1, c2⟩ := hq.2.2 hz
        have m1 := mul_range hn.1 hn.2 hw.1 hw.2
        have m2 := mul_range hq.1 hq.2.1 (b := W.sum) (B := 25) (by omega) (by omega)
        rw [if_pos hz, if_pos h0, if_pos (by omega), if_pos (by omega)]
        generalize rd (spreadF n W) i * W.sum = y at *
        generalize n * rd W i = z at *
        rw [w64 (n := z) (by omega) (by omega), w64 (n := y) (by omega) (by omega), w64 (n := z + W.sum) (by omega) (by omega), w64 (n := z - W.sum) (by omega) (by omega), if_neg (by omega), if_neg (by omega)]
      · rw [if_neg hz]
    rw [laws_FnSpreadBy.l0, if_pos (by omega), if_pos h0, if_neg (by omega), e]
    by_cases hz : W.sum > 0
    · rw [if_pos hz, if_pos (by omega)]
      by_cases hw0 : rd W i = 0
      · rw [if_pos hw0, decide_eq_false (by have := (hq.2.2 hz).1 hw0; omega), e]
      · rw [if_neg hw0]
    · rw [if_neg hz]

theorem newReader_ok (l : List Int) (hl : Bytes l) : ∃ s, spec_newReader.f l = some (s, 0) ∧ Bytes s ∧ s.length ≤ 2000 := by
  unfold spec_newReader.f
  by_cases h : (l.length : Int) > 2000
  · rw [if_pos h, if_pos (by omega)]
    exact ⟨_, rfl, fun x hx => hl x (List.mem_of_mem_take hx), List.length_take_le _ _⟩
  · rw [if_neg h]
    exact ⟨l, rfl, hl, by omega⟩
theorem pick_ok (k : Nat) {s : List Int} {p : Int} (n : Int) (hs : Bytes s) (hl : s.length ≤ 2000) (p0 : 0 ≤ p) (p1 : p ≤ 1000000) :
    ∃ v, spec_reader_pick.f (k + 1) s p n = some (v, p + 1) ∧ 0 ≤ v ∧ (1 ≤ n → v < n) ∧ (n < 1 → v = 0) := by
  unfold spec_reader_pick.f
  rw [w64 (n := p + 1) (by omega) (by omega)]
  by_cases h1 : n < 1
  · rw [if_pos h1, spec_reader_pick.j0, if_pos rfl]
    exact ⟨0, rfl, by omega, by omega, fun _ => rfl⟩
  · rw [if_neg h1, spec_reader_pick.j0]
    by_cases h2 : (s.length : Int) = 0
    · rw [if_pos (by simp only [h2]; rfl)]
      exact ⟨0, rfl, by omega, by omega, fun _ => rfl⟩
    · rw [if_neg (by rw [beq_iff_eq]; exact h2), w64 (n := p + 1 - 1) (by omega) (by omega), show p + 1 - 1 = p from by omega]
      by_cases h3 : p < (s.length : Int)
      · have hr := rd_byte hs p
        rw [if_pos h3, if_pos p0, if_neg (by omega), w64 (n := rd s p) (by omega) (by omega)]
        have ht := tmod_lt hr.1 (show 1 ≤ n by omega)
        exact ⟨_, rfl, ht.1, fun _ => ht.2, fun h => by omega⟩
      · have hlen : 1 ≤ (s.length : Int) := by omega
        have q1 := tmod_lt p0 hlen
        have q2 := tmod_lt (a := p * 7 + 3) (by omega) hlen
        have qd : 0 ≤ Int.tdiv p (s.length : Int) ∧ Int.tdiv p (s.length : Int) ≤ p := by
          rw [td2 p0]
          exact ⟨Int.ediv_nonneg p0 (by omega), Int.ediv_le_self _ p0⟩
        rw [if_neg h3, if_neg h2, if_pos q1.1, if_pos q1.2, w64 (n := p * 7) (by omega) (by omega), w64 (n := p * 7 + 3) (by omega) (by omega), if_pos q2.1, if_pos q2.2, if_neg (by omega)]
        have ra := rd_byte hs (Int.tmod p (s.length : Int))
        have rb := rd_byte hs (Int.tmod (p * 7 + 3) (s.length : Int))
        generalize rd s (Int.tmod p (s.length : Int)) = a at *
        generalize rd s (Int.tmod (p * 7 + 3) (s.length : Int)) = b at *
        generalize Int.tdiv p (s.length : Int) = d at *
        rw [w64 (n := a) (by omega) (by omega), w64 (n := b) (by omega) (by omega), w64 (n := a * 131) (by omega) (by omega), w64 (n := b * 1117) (by omega) (by omega), w64 (n := a * 131 + b * 1117) (by omega) (by omega), w64 (n := p * 29) (by omega) (by omega), w64 (n := a * 131 + b * 1117 + p * 29) (by omega) (by omega), w64 (n := d) (by omega) (by omega), w64 (n := d * 53) (by omega) (by omega), w64 (n := a * 131 + b * 1117 + p * 29 + d * 53) (by omega) (by omega)]
        have hx : 0 ≤ a * 131 + b * 1117 + p * 29 + d * 53 ∧ a * 131 + b * 1117 + p * 29 + d * 53 ≤ 1000000000 := by omega
        generalize a * 131 + b * 1117 + p * 29 + d * 53 = x at *
        rw [td2 hx.1, w64 (n := x / 64) (by omega) (by omega)]
        have ht := tmod_lt (xor_range (a := x) (b := x / 64) (by omega) (by omega) (by omega) (by omega)) (show 1 ≤ n by omega)
        exact ⟨_, rfl, ht.1, fun _ => ht.2, fun h => by omega⟩

theorem one_ok (k : Nat) {s : List Int} {p : Int} (L : List Int) (hL : 1 ≤ (L.length : Int)) (hs : Bytes s) (hl : s.length ≤ 2000) (p0 : 0 ≤ p) (p1 : p ≤ 1000000) :
    ∃ v, spec_reader_one.f (k + 1) s p L = some (v, p + 1) ∧ v ∈ L := by
  obtain ⟨v, e, v0, v1, _⟩ := pick_ok k (L.length : Int) hs hl p0 p1
  unfold spec_reader_one.f
  rw [e, Option.bind_some]
  simp only
  rw [if_pos v0, if_pos (v1 hL)]
  exact ⟨_, rfl, rd_mem v0 (v1 hL)⟩

theorem pick_bind {β : Type} {P : β → Prop} {k : Nat} {s : List Int} {p n : Int} {f : Int × Int → Option β} (hs : Bytes s) (hl : s.length ≤ 2000) (p0 : 0 ≤ p) (p1 : p ≤ 1000000)
    (h : ∀ v, 0 ≤ v → (1 ≤ n → v < n) → ∃ r, f (v, p + 1) = some r ∧ P r) : ∃ r, (spec_reader_pick.f (k + 1) s p n).bind f = some r ∧ P r := by
  obtain ⟨v, e, v0, v1, _⟩ := pick_ok k n hs hl p0 p1
  rw [e, Option.bind_some]
  exact h v v0 v1

theorem one_bind {β : Type} {P : β → Prop} {k : Nat} {s : List Int} {p : Int} {L : List Int} {f : Int × Int → Option β} (hs : Bytes s) (hl : s.length ≤ 2000) (p0 : 0 ≤ p) (p1 : p ≤ 1000000) (hL : 1 ≤ (L.length : Int))
    (h : ∀ v, v ∈ L → ∃ r, f (v, p + 1) = some r ∧ P r) : ∃ r, (spec_reader_one.f (k + 1) s p L).bind f = some r ∧ P r := by
  obtain ⟨v, e, hv⟩ := one_ok k L hL hs hl p0 p1
  rw [e, Option.bind_some]
  exact h v hv

theorem drawS_j1 {s O : List Int} (hs : Bytes s) (hl : s.length ≤ 2000) (hO : O.length ≤ 6) (k : Nat) (b : Bool) (p : Int) (hb : b = true → 0 < (O.length : Int)) (p0 : 0 ≤ p) (p1 : p ≤ 900000) : ∃ r, spec_DrawSpreadBy.j1 (k + 2) O b s p = some r ∧ r.2.length ≤ 6 := by
  rw [spec_DrawSpreadBy.j1]
  cases b with
  | true =>
    rw [if_pos rfl]
    refine one_bind hs hl (by omega) (by omega) (by simp) (fun _ _ => ?_)
    rw [if_pos (hb rfl)]
    refine pick_bind hs hl (by dsimp only; omega) (by dsimp only; omega) (fun _ _ _ => ?_)
    refine one_bind hs hl (by dsimp only; omega) (by dsimp only; omega) (by simp) (fun _ _ => ?_)
    exact ⟨_, rfl, by dsimp only; rw [List.length_set]; exact hO⟩
  | false =>
    rw [if_neg (by decide)]
    refine pick_bind hs hl (by omega) (by omega) (fun _ _ _ => ?_)
    refine one_bind hs hl (by dsimp only; omega) (by dsimp only; omega) (by simp) (fun _ _ => ?_)
    exact ⟨_, rfl, hO⟩
theorem drawS_loop {s : List Int} (hs : Bytes s) (hl : s.length ≤ 2000) (d : Nat) : ∀ (k : Nat) (O : List Int) (n p : Int), n = d → O.length + d ≤ 6 → d + 4 ≤ k → 0 ≤ p → p ≤ 800000 + O.length → ∃ r, spec_DrawSpreadBy.l0 k O n s p = some r ∧ r.2.length ≤ 6 := by
  induction d with
  | zero =>
    intro k O n p hn hO hk p0 p1
    obtain ⟨k, rfl⟩ : ∃ m, k = m + 3 := ⟨k - 3, by omega⟩
    rw [spec_DrawSpreadBy.l0, if_neg (by omega)]
    by_cases h : (O.length : Int) > 0
    · rw [if_pos h]
      refine pick_bind hs hl (by omega) (by omega) (fun _ _ _ => ?_)
      exact drawS_j1 hs hl (by omega) k _ _ (fun _ => h) (by omega) (by omega)
    · rw [if_neg h]
      exact drawS_j1 hs hl (by omega) k _ _ (fun q => by cases q) (by omega) (by omega)
  | succ d ih =>
    intro k O n p hn hO hk p0 p1
    obtain ⟨k, rfl⟩ : ∃ m, k = m + 2 := ⟨k - 2, by omega⟩
    rw [spec_DrawSpreadBy.l0, if_pos (by omega)]
    refine one_bind hs hl (by omega) (by omega) (by simp) (fun v _ => ?_)
    rw [if_pos (by omega), w64 (n := n - 1) (by omega) (by omega)]
    exact ih (k + 1) (O ++ [v]) (n - 1) (p + 1) (by omega) (by rw [List.length_append]; simp; omega) (by omega) (by omega) (by rw [List.length_append]; simp; omega)
theorem draw_ok (k : Nat) {l : List Int} (hb : Bytes l) : ∃ r, spec_DrawSpreadBy.f (k + 20) l = some r ∧ r.2.length ≤ 6 := by
  unfold spec_DrawSpreadBy.f
  obtain ⟨s, e, hs, hl⟩ := newReader_ok l hb
  rw [e, Option.bind_some]
  refine one_bind (k := k + 19) hs hl (by dsimp only; omega) (by dsimp only; omega) (by simp) (fun v hv => ?_)
  have hv' : 0 ≤ v ∧ v ≤ 6 := by
    simp only [List.mem_cons, List.not_mem_nil, or_false] at hv
    omega
  exact drawS_loop hs hl v.toNat (k + 20) [] v _ (by omega) (by simp; omega) (by omega) (by dsimp only; omega) (by dsimp only; simp)

theorem FnSpreadBy : laws_FnSpreadBy.Pure := by
  intro l0 _ _ hw
  refine ⟨60, ?_⟩
  unfold laws_FnSpreadBy.f
  by_cases hb : (l0.length : Int) > 1048576
  · rw [if_pos hb]
  obtain ⟨⟨n, W⟩, e, hW6⟩ := draw_ok 40 (bytes_of hw)
  rw [if_neg hb, e, Option.bind_some]
  clear e
  dsimp only at hW6
  dsimp only
  obtain ⟨r, e1, e2, hr, hq⟩ := spreads_ok n W (by omega)
  rw [e1 60 (by omega), Option.bind_some, e2 60 (by omega), Option.bind_some, equalInts_ok (l := r) (by omega) 60 (by omega), Option.bind_some, if_pos rfl, laws_FnSpreadBy.j0]
  rcases hq with rfl | ⟨hS, rfl⟩
  · rw [if_pos (by simp), e2 59 (by omega), Option.bind_some, equalInts_ok (l := []) (by simp) 59 (by simp), Option.bind_some]
  · have hl := spreadF_len n W
    have h1 := hS.2.1.1
    rw [if_neg (by rw [hl, beq_iff_eq]; omega), laws_total_ok (fun j a b => by have := hS.2.2 j a b; omega) (by omega) 59 (by omega), Option.bind_some]
    exact law_loop hS W.length 59 0 (by omega) (by omega) (by omega)

end Go.Proofs.Ytnekecbhjlamoaa.Pure
