/- The plain side of FnExactSpreadBy: the printed function answers true at every input; no condition is added. -/
import Derived.Test.YtnekecbhjlamoaaQFnExactSpreadByx0
import Derived.Test.YtnekecbhjlamoaaQFnExactSpreadByx1
import Derived.Test.YtnekecbhjlamoaaQFnExactSpreadByx2
import Derived.Test.YtnekecbhjlamoaaQFnExactSpreadByx3
import Derived.Test.YtnekecbhjlamoaaPanes
namespace Go.Proofs.Ytnekecbhjlamoaa.Pure
open Go.RowKit Go.Proofs.Ytnekecbhjlamoaa.PFnExactSpreadBy Go.Proofs.YtnekecbhjlamoaaW.PrintWords Go.Proofs.YtnekecbhjlamoaaW.PrintLast Go.Proofs.YtnekecbhjlamoaaW.PrintMore Go.Proofs.Ytnekecbhjlamoaa.Base
set_option linter.unusedVariables false
set_option linter.unusedSimpArgs false

theorem within_eq (a b c : Int) : impl_within.f a b c = some (decide (b ≤ a ∧ a ≤ c)) := by
  unfold impl_within.f
  by_cases h : b ≤ a
  · rw [if_pos h]; simp [h]
  · rw [if_neg h]; simp [h]

theorem inrange_eq (a b c : Int) : spec_inRange.f a b c = some (decide (b ≤ a ∧ a ≤ c)) := by
  unfold spec_inRange.f
  by_cases h : b ≤ a
  · rw [if_pos h]; simp [h]
  · rw [if_neg h]; simp [h]

theorem spec_total_loop {S : List Int} (hb : Bd S (-1000000) 1000000) (hl : (S.length : Int) ≤ 1000000) (d : Nat) : ∀ (k : Nat) (i acc : Int), i + d = (S.length : Int) → 0 ≤ i → d + 1 ≤ k → -1000000 * i ≤ acc → acc ≤ 1000000 * i → spec_total.l0 k S acc i = some (acc + sf S i) := by
  induction d with
  | zero =>
    intro k i acc hi h0 hk ha hb'
    obtain ⟨k, rfl⟩ : ∃ m, k = m + 1 := ⟨k - 1, by omega⟩
    rw [spec_total.l0, if_neg (by omega), sf_end (by omega)]
    simp
  | succ d ih =>
    intro k i acc hi h0 hk ha hb'
    obtain ⟨k, rfl⟩ : ∃ m, k = m + 1 := ⟨k - 1, by omega⟩
    have h1 := hb i h0 (by omega)
    rw [spec_total.l0, if_pos (by omega), if_pos h0, w64 (n := acc + rd S i) (by omega) (by omega), w64 (n := i + 1) (by omega) (by omega), ih k (i + 1) (acc + rd S i) (by omega) (by omega) (by omega) (by omega) (by omega), sf_step h0 (by omega)]
    congr 1
    omega
theorem spec_total_ok {S : List Int} (hb : Bd S (-1000000) 1000000) (hl : (S.length : Int) ≤ 1000000) (k : Nat) (hk : S.length + 1 ≤ k) : spec_total.f k S = some S.sum := by
  unfold spec_total.f
  have h := spec_total_loop hb hl S.length k 0 0 (by omega) (by omega) hk (by omega) (by omega)
  rw [Int.zero_add, sf_zero] at h
  exact h

theorem impl_sum_loop {S : List Int} (hb : Bd S (-1000000) 1000000) (hl : (S.length : Int) ≤ 1000000) (d : Nat) : ∀ (k : Nat) (i acc : Int), i + d = (S.length : Int) → 0 ≤ i → d + 1 ≤ k → -1000000 * i ≤ acc → acc ≤ 1000000 * i → impl_sum.l0 k acc S (S.length : Int) i = some (acc + sf S i) := by
  induction d with
  | zero =>
    intro k i acc hi h0 hk ha hb'
    obtain ⟨k, rfl⟩ : ∃ m, k = m + 1 := ⟨k - 1, by omega⟩
    rw [impl_sum.l0, if_neg (by omega), sf_end (by omega)]
    simp
  | succ d ih =>
    intro k i acc hi h0 hk ha hb'
    obtain ⟨k, rfl⟩ : ∃ m, k = m + 1 := ⟨k - 1, by omega⟩
    have h1 := hb i h0 (by omega)
    rw [impl_sum.l0, if_pos (by omega), if_pos h0, if_pos (by omega), w64 (n := acc + rd S i) (by omega) (by omega), w64 (n := i + 1) (by omega) (by omega), ih k (i + 1) (acc + rd S i) (by omega) (by omega) (by omega) (by omega) (by omega), sf_step h0 (by omega)]
    congr 1
    omega
theorem impl_sum_ok {S : List Int} (hb : Bd S (-1000000) 1000000) (hl : (S.length : Int) ≤ 1000000) (k : Nat) (hk : S.length + 1 ≤ k) : impl_sum.f k S = some S.sum := by
  unfold impl_sum.f
  have h := impl_sum_loop hb hl S.length k 0 0 (by omega) (by omega) hk (by omega) (by omega)
  rw [Int.zero_add, sf_zero] at h
  exact h

theorem rd_set {L : List Int} {i j v : Int} (i0 : 0 ≤ i) (i1 : i < (L.length : Int)) (j0 : 0 ≤ j) : rd (L.set i.toNat v) j = if j = i then v else rd L j := by
  unfold rd
  rw [List.getD_eq_getElem?_getD, List.getD_eq_getElem?_getD, List.getElem?_set]
  by_cases h : j = i
  · rw [if_pos h, if_pos (by omega), if_pos (by omega)]
    rfl
  · rw [if_neg h, if_neg (by omega)]

/-- One more for each that has a weight, from the first on, as long as some are missing. -/
def bump : List Int → List Int → Int → List Int
  | w :: W, o :: O, m => if 0 < w ∧ 0 < m then (o + 1) :: bump W O (m - 1) else o :: bump W O m
  | [], O, _ => O
  | _ :: _, [], _ => []
/-- How many have a weight. -/
def posn : List Int → Int
  | [] => 0
  | w :: W => (if 0 < w then 1 else 0) + posn W
theorem posn_nonneg (W : List Int) : 0 ≤ posn W := by
  induction W with
  | nil => exact Int.le_refl 0
  | cons w W ih =>
    rw [posn]
    split <;> omega
theorem bump_len (W : List Int) : ∀ (O : List Int) (m : Int), (bump W O m).length = O.length := by
  induction W with
  | nil => intro O m; cases O <;> rfl
  | cons w W ih =>
    intro O m
    cases O with
    | nil => rfl
    | cons o O =>
      rw [bump]
      split
      · rw [List.length_cons, List.length_cons, ih]
      · rw [List.length_cons, List.length_cons, ih]
theorem bump_none (W : List Int) : ∀ (O : List Int) (m : Int), m ≤ 0 → bump W O m = O := by
  induction W with
  | nil => intro O m _; cases O <;> rfl
  | cons w W ih =>
    intro O m h
    cases O with
    | nil => rfl
    | cons o O =>
      rw [bump, if_neg (by omega), ih O m h]
theorem bump_sum (W : List Int) : ∀ (O : List Int) (m : Int), W.length = O.length → 0 ≤ m → m ≤ posn W → (bump W O m).sum = O.sum + m := by
  induction W with
  | nil =>
    intro O m hl h0 h1
    have e : O = [] := List.length_eq_zero_iff.1 hl.symm
    subst e
    rw [posn] at h1
    simp [bump]
    omega
  | cons w W ih =>
    intro O m hl h0 h1
    cases O with
    | nil => cases hl
    | cons o O =>
      have hl' : W.length = O.length := by simpa using hl
      rw [posn] at h1
      rw [bump]
      split
      · rw [List.sum_cons, List.sum_cons, ih O (m - 1) hl' (by omega) (by split at h1 <;> omega)]
        omega
      · rw [List.sum_cons, List.sum_cons]
        by_cases hm : m = 0
        · subst hm
          rw [bump_none W O 0 (by omega)]
          omega
        · rw [ih O m hl' h0 (by split at h1 <;> omega)]
          omega
/-- Each part, by how much it has been raised. -/
theorem bump_each (W : List Int) : ∀ (O : List Int) (m : Int) (j : Nat), (bump W O m).getD j 0 = O.getD j 0 ∨ ((bump W O m).getD j 0 = O.getD j 0 + 1 ∧ 0 < W.getD j 0) := by
  induction W with
  | nil => intro O m j; cases O <;> exact .inl rfl
  | cons w W ih =>
    intro O m j
    cases O with
    | nil => exact .inl rfl
    | cons o O =>
      rw [bump]
      split
      · cases j with
        | zero => exact .inr ⟨rfl, by simp; omega⟩
        | succ j => simpa using ih O (m - 1) j
      · cases j with
        | zero => exact .inl rfl
        | succ j => simpa using ih O m j
/-- The parts of a number by weights, each without its rest. -/
def parts (n s : Int) (W : List Int) : List Int := W.map fun w => n * w / s
/-- The rests of the parts. -/
def rests (n s : Int) (W : List Int) : Int := (W.map fun w => n * w % s).sum
theorem parts_rests (n s : Int) (W : List Int) : n * W.sum = s * (parts n s W).sum + rests n s W := by
  induction W with
  | nil => simp [parts, rests]
  | cons w W ih =>
    unfold parts rests at *
    rw [List.map_cons, List.map_cons, List.sum_cons, List.sum_cons, List.sum_cons, Int.mul_add, Int.mul_add, ih]
    have := Int.mul_ediv_add_emod (n * w) s
    omega
theorem rests_range {n s : Int} (hs : 1 ≤ s) (W : List Int) (hW : ∀ w ∈ W, 0 ≤ w) : 0 ≤ rests n s W ∧ rests n s W ≤ (s - 1) * posn W := by
  induction W with
  | nil => simp [rests, posn]
  | cons w W ih =>
    have h := ih (fun x hx => hW x (List.mem_cons_of_mem w hx))
    have h0 := hW w List.mem_cons_self
    have h1 := Int.emod_nonneg (n * w) (b := s) (by omega)
    have h2 := Int.emod_lt_of_pos (n * w) (b := s) (by omega)
    unfold rests at *
    rw [List.map_cons, List.sum_cons, posn, Int.mul_add]
    by_cases hw : 0 < w
    · rw [if_pos hw]
      omega
    · rw [if_neg hw]
      have e : w = 0 := by omega
      subst e
      simp at *
      omega
theorem missing_range {n s : Int} {W : List Int} (hs : 1 ≤ s) (he : W.sum = s) (hW : ∀ w ∈ W, 0 ≤ w) : 0 ≤ n - (parts n s W).sum ∧ n - (parts n s W).sum ≤ posn W := by
  have h1 := parts_rests n s W
  have h2 := rests_range (n := n) hs W hW
  have h3 := posn_nonneg W
  rw [he] at h1
  have e : s * (n - (parts n s W).sum) = rests n s W := by
    rw [Int.mul_sub, Int.mul_comm s n]
    omega
  generalize n - (parts n s W).sum = m at *
  constructor
  · by_cases h : 0 ≤ m
    · exact h
    · exfalso
      have := Int.mul_le_mul_of_nonneg_left (show m ≤ -1 from by omega) (show 0 ≤ s from by omega)
      omega
  · by_cases h : m ≤ posn W
    · exact h
    · exfalso
      have h4 := Int.mul_le_mul_of_nonneg_left (show posn W + 1 ≤ m from by omega) (show 0 ≤ s from by omega)
      rw [Int.mul_add] at h4
      rw [Int.sub_mul] at h2
      omega

/-- The parts that SpreadBy tells. -/
def spreadF (n : Int) (W : List Int) : List Int := if W.sum = 0 then (List.replicate W.length 0).set (W.length - 1) n else bump W (parts n W.sum W) (n - (parts n W.sum W).sum)
theorem bd_mem {W : List Int} {a b : Int} (h : Bd W a b) : ∀ w ∈ W, a ≤ w ∧ w ≤ b := by
  intro w hw
  obtain ⟨i, hi, rfl⟩ := List.getElem_of_mem hw
  have := h i (by omega) (by omega)
  rw [rd_get (by omega) (by omega)] at this
  simpa using this
theorem parts_len (n s : Int) (W : List Int) : (parts n s W).length = W.length := by
  unfold parts
  rw [List.length_map]
theorem rd_parts {n s : Int} {W : List Int} {i : Int} (h0 : 0 ≤ i) (h1 : i < (W.length : Int)) : rd (parts n s W) i = n * rd W i / s := by
  have hl := parts_len n s W
  rw [rd_get h0 (by omega), rd_get h0 h1]
  unfold parts
  rw [List.getElem_map]
theorem fill_set {L : List Int} {i d : Nat} (hi : i + (d + 1) = L.length) : (L.take i ++ List.replicate (d + 1) 0).set (i : Int).toNat (rd L i) = L.take (i + 1) ++ List.replicate d 0 := by
  rw [Int.toNat_natCast, List.replicate_succ, List.set_append_right _ _ (by rw [List.length_take]; omega), List.length_take, show i - min i L.length = 0 from by omega, List.set_cons_zero, List.take_succ_eq_append_getElem (by omega), rd_get (by omega) (by omega), List.append_assoc]
  rfl
theorem fill_len {L : List Int} {i d : Nat} (hi : i + d = L.length) : ((L.take i ++ List.replicate d (0 : Int)).length : Int) = L.length := by
  rw [List.length_append, List.length_take, List.length_replicate]
  omega
theorem fill_rd {L : List Int} {i d : Nat} (hi : i + d = L.length) {j : Int} (j0 : 0 ≤ j) (j1 : j < i) : rd (L.take i ++ List.replicate d (0 : Int)) j = rd L j := by
  have hl := fill_len hi
  rw [rd_get j0 (by omega), rd_get j0 (by omega), List.getElem_append_left (by rw [List.length_take]; omega), List.getElem_take]
/-- What a part is, and how great. -/
theorem part_val {n s w : Int} (hn : 0 ≤ n ∧ n ≤ 400) (hw : 0 ≤ w ∧ w ≤ 5) (hs : 1 ≤ s) : wrap64 (Int.tdiv (wrap64 (n * w)) s) = n * w / s ∧ 0 ≤ n * w / s ∧ n * w / s ≤ 2000 := by
  have h1 := mul_range hn.1 hn.2 hw.1 hw.2
  have h2 := div_range (a := n * w) (b := s) h1.1 (by omega)
  rw [w64 (n := n * w) (by omega) (by omega), td2 h1.1, w64 (n := n * w / s) (by omega) (by omega)]
  omega
theorem posn_drop {W : List Int} {i : Nat} (h : i < W.length) : posn (W.drop i) = (if 0 < rd W i then 1 else 0) + posn (W.drop (i + 1)) := by
  rw [List.drop_eq_getElem_cons h, posn, rd_get (by omega) (by omega)]
  rfl
theorem bump_step {W O : List Int} {i : Nat} (hl : O.length = W.length) (h : i < W.length) (m : Int) : O.take i ++ bump (W.drop i) (O.drop i) m = if 0 < rd W i ∧ 0 < m then (O.set (i : Int).toNat (rd O i + 1)).take (i + 1) ++ bump (W.drop (i + 1)) ((O.set (i : Int).toNat (rd O i + 1)).drop (i + 1)) (m - 1) else O.take (i + 1) ++ bump (W.drop (i + 1)) (O.drop (i + 1)) m := by
  have e1 : O.drop i = rd O i :: O.drop (i + 1) := by
    rw [List.drop_eq_getElem_cons (by omega), rd_get (by omega) (by omega)]
    rfl
  have e2 : W.drop i = rd W i :: W.drop (i + 1) := by
    rw [List.drop_eq_getElem_cons (by omega), rd_get (by omega) (by omega)]
    rfl
  have e3 : O.take (i + 1) = O.take i ++ [rd O i] := by
    rw [List.take_succ_eq_append_getElem (by omega), rd_get (by omega) (by omega)]
    rfl
  have e4 : (O.set (i : Int).toNat (rd O i + 1)).take (i + 1) = O.take i ++ [rd O i + 1] := by
    rw [Int.toNat_natCast, List.take_succ_eq_append_getElem (by rw [List.length_set]; omega), List.getElem_set_self, List.take_set_of_le (by omega)]
  have e5 : (O.set (i : Int).toNat (rd O i + 1)).drop (i + 1) = O.drop (i + 1) := by
    rw [Int.toNat_natCast, List.drop_set_of_lt (by omega)]
  rw [e1, e2, bump, e3, e4, e5]
  split
  · rw [List.append_assoc]
    rfl
  · rw [List.append_assoc]
    rfl

theorem impl_spread_raise {W : List Int} (hW : Bd W 0 5) (hl5 : (W.length : Int) ≤ 5) (d : Nat) : ∀ (k i : Nat) (O : List Int) (m : Int), i + d = W.length → O.length = W.length → d + 1 ≤ k → 0 ≤ m → m ≤ 1000000 → (∀ j : Int, i ≤ j → j < (W.length : Int) → 0 ≤ rd O j ∧ rd O j ≤ 1000000) → impl_spread.l1 k O m W (W.length : Int) (i : Int) = some (O.take i ++ bump (W.drop i) (O.drop i) m) := by
  induction d with
  | zero =>
    intro k i O m hi hl hk m0 m1 hO
    obtain ⟨k, rfl⟩ : ∃ m, k = m + 1 := ⟨k - 1, by omega⟩
    rw [impl_spread.l1, if_neg (by omega), List.take_of_length_le (by omega), List.drop_eq_nil_of_le (show O.length ≤ i from by omega), List.drop_eq_nil_of_le (show W.length ≤ i from by omega)]
    simp [bump]
  | succ d ih =>
    intro k i O m hi hl hk m0 m1 hO
    obtain ⟨k, rfl⟩ : ∃ m, k = m + 1 := ⟨k - 1, by omega⟩
    have hw := hW i (by omega) (by omega)
    have ho := hO i (by omega) (by omega)
    rw [bump_step hl (by omega), impl_spread.l1, if_pos (by omega), if_pos (by omega), if_pos (by omega), w64 (n := (i : Int) + 1) (by omega) (by omega), show (i : Int) + 1 = ((i + 1 : Nat) : Int) from by omega]
    by_cases w0 : rd W i = 0
    · rw [if_pos w0, if_neg (by omega)]
      exact ih k (i + 1) O m (by omega) hl (by omega) m0 m1 (fun j j0 j1 => hO j (by omega) j1)
    · rw [if_neg w0]
      by_cases hm : m > 0
      · rw [if_pos hm, if_pos (by omega), if_pos (by omega), w64 (n := m - 1) (by omega) (by omega), w64 (n := rd O i + 1) (by omega) (by omega)]
        refine ih k (i + 1) _ (m - 1) (by omega) (by rw [List.length_set]; exact hl) (by omega) (by omega) (by omega) (fun j j0 j1 => ?_)
        rw [rd_set (by omega) (by omega) (by omega), if_neg (by omega)]
        exact hO j (by omega) j1
      · rw [if_neg hm, if_neg (by omega)]
        exact ih k (i + 1) O m (by omega) hl (by omega) m0 m1 (fun j j0 j1 => hO j (by omega) j1)
theorem impl_spread_parts {n s : Int} {W : List Int} (hn : 0 ≤ n ∧ n ≤ 400) (hs : 1 ≤ s) (hW : Bd W 0 5) (hl5 : (W.length : Int) ≤ 5) (d : Nat) : ∀ (k i : Nat), i + d = W.length → impl_spread.l0 (k + d + 1) n W ((parts n s W).take i ++ List.replicate d 0) s W (W.length : Int) (i : Int) = (impl_sum.f k (parts n s W)).bind fun t => impl_spread.l1 k (parts n s W) (wrap64 (n - t)) W (W.length : Int) 0 := by
  have hpl := parts_len n s W
  induction d with
  | zero =>
    intro k i hi
    rw [impl_spread.l0, if_neg (by omega), List.take_of_length_le (by omega)]
    simp
  | succ d ih =>
    intro k i hi
    have hw := hW i (by omega) (by omega)
    have hp := part_val hn hw hs
    rw [show k + (d + 1) + 1 = (k + d + 1) + 1 from by omega, impl_spread.l0, if_pos (by omega), if_pos (by omega), if_pos (by omega), if_neg (by omega), if_pos (by rw [fill_len (by omega)]; omega), hp.1, ← rd_parts (by omega) (by omega), fill_set (by omega), w64 (n := (i : Int) + 1) (by omega) (by omega), show (i : Int) + 1 = ((i + 1 : Nat) : Int) from by omega]
    exact ih k (i + 1) (by omega)
theorem impl_spread_ok {n : Int} {W : List Int} (hn : 0 ≤ n ∧ n ≤ 400) (hW : Bd W 0 5) (h1 : 1 ≤ (W.length : Int)) (h5 : (W.length : Int) ≤ 5) (k : Nat) (hk : 20 ≤ k) : impl_spread.f k n W = some (spreadF n W) := by
  have hs := (sf_range hW W.length 0 (by omega) (by omega))
  rw [sf_zero] at hs
  have hpl := parts_len n W.sum W
  unfold impl_spread.f
  rw [if_pos (by omega), if_pos (by omega), Option.bind_some, impl_sum_ok (fun j a b => by have := hW j a b; omega) (by omega) k (by omega), Option.bind_some, List.length_replicate, Int.toNat_natCast, w64 (n := (W.length : Int) - 1) (by omega) (by omega)]
  unfold spreadF
  by_cases h0 : W.sum = 0
  · rw [if_pos h0, if_pos h0, if_pos (by omega), if_pos (by omega), show ((W.length : Int) - 1).toNat = W.length - 1 from by omega]
  · rw [if_neg h0, if_neg h0]
    have hp : Bd (parts n W.sum W) 0 2000 := fun j j0 j1 => by
      rw [rd_parts j0 (by omega)]
      exact (part_val hn (hW j j0 (by omega)) (by omega)).2
    have hm := missing_range (n := n) (s := W.sum) (by omega) rfl (fun w hw => (bd_mem hW w hw).1)
    have hps := (sf_range hp W.length 0 (by omega) (by omega))
    rw [sf_zero] at hps
    have e := impl_spread_parts hn (s := W.sum) (by omega) hW h5 W.length (k - W.length - 1) 0 (by omega)
    rw [show k - W.length - 1 + W.length + 1 = k from by omega, impl_sum_ok (fun j a b => by have := hp j a b; omega) (by omega) _ (by omega), Option.bind_some, w64 (n := n - (parts n W.sum W).sum) (by omega) (by omega)] at e
    rw [List.take_zero, List.nil_append, Int.natCast_zero] at e
    rw [e]
    have := impl_spread_raise hW h5 W.length (k - W.length - 1) 0 (parts n W.sum W) (n - (parts n W.sum W).sum) (by omega) hpl (by omega) hm.1 (by omega) (fun j j0 j1 => by have := hp j (by omega) (by omega); omega)
    simpa using this

theorem spec_spread_raise {W : List Int} (hW : Bd W 0 5) (hl5 : (W.length : Int) ≤ 5) (d : Nat) : ∀ (k i : Nat) (O : List Int) (m : Int), i + d = W.length → O.length = W.length → d + 1 ≤ k → 0 ≤ m → m ≤ posn (W.drop i) → m ≤ 1000000 → (∀ j : Int, i ≤ j → j < (W.length : Int) → 0 ≤ rd O j ∧ rd O j ≤ 1000000) → spec_spread.l1 k W O m (i : Int) = some (O.take i ++ bump (W.drop i) (O.drop i) m) := by
  induction d with
  | zero =>
    intro k i O m hi hl hk m0 mp m1 hO
    obtain ⟨k, rfl⟩ : ∃ m, k = m + 1 := ⟨k - 1, by omega⟩
    rw [List.drop_eq_nil_of_le (show W.length ≤ i from by omega), posn] at mp
    rw [spec_spread.l1, if_neg (by omega), List.take_of_length_le (by omega), List.drop_eq_nil_of_le (show O.length ≤ i from by omega), List.drop_eq_nil_of_le (show W.length ≤ i from by omega)]
    simp [bump]
  | succ d ih =>
    intro k i O m hi hl hk m0 mp m1 hO
    obtain ⟨k, rfl⟩ : ∃ m, k = m + 1 := ⟨k - 1, by omega⟩
    have hw := hW i (by omega) (by omega)
    have ho := hO i (by omega) (by omega)
    rw [posn_drop (by omega)] at mp
    by_cases hm : m > 0
    · rw [bump_step hl (by omega), spec_spread.l1, if_pos hm, if_pos (by omega), if_pos (by omega), w64 (n := (i : Int) + 1) (by omega) (by omega), show (i : Int) + 1 = ((i + 1 : Nat) : Int) from by omega]
      by_cases w0 : rd W i > 0
      · rw [if_pos w0, if_pos (by omega), if_pos (by omega), w64 (n := m - 1) (by omega) (by omega), w64 (n := rd O i + 1) (by omega) (by omega)]
        rw [if_pos w0] at mp
        refine ih k (i + 1) _ (m - 1) (by omega) (by rw [List.length_set]; exact hl) (by omega) (by omega) (by omega) (by omega) (fun j j0 j1 => ?_)
        rw [rd_set (by omega) (by omega) (by omega), if_neg (by omega)]
        exact hO j (by omega) j1
      · rw [if_neg w0, if_neg (by omega)]
        rw [if_neg w0] at mp
        exact ih k (i + 1) O m (by omega) hl (by omega) m0 (by omega) m1 (fun j j0 j1 => hO j (by omega) j1)
    · rw [spec_spread.l1, if_neg hm, bump_none _ _ _ (by omega), List.take_append_drop]
theorem spec_spread_parts {n s : Int} {W : List Int} (hn : 0 ≤ n ∧ n ≤ 400) (hs : 1 ≤ s) (hW : Bd W 0 5) (hl5 : (W.length : Int) ≤ 5) (d : Nat) : ∀ (k i : Nat) (left : Int), i + d = W.length → left = n - pre (parts n s W) i → -100000 + 2000 * d ≤ left → left ≤ 100000 → spec_spread.l0 (k + d + 1) n W ((parts n s W).take i ++ List.replicate d 0) s left (i : Int) = spec_spread.l1 k W (parts n s W) (n - (parts n s W).sum) 0 := by
  have hpl := parts_len n s W
  induction d with
  | zero =>
    intro k i left hi hleft _ _
    rw [pre_end (by omega)] at hleft
    have e : (parts n s W).take i ++ List.replicate 0 0 = parts n s W := by
      rw [List.take_of_length_le (by omega)]
      simp
    rw [e, spec_spread.l0, if_neg (by omega), hleft]
  | succ d ih =>
    intro k i left hi hleft hl0 hl1
    have hw := hW i (by omega) (by omega)
    have hp := part_val hn hw hs
    rw [show k + (d + 1) + 1 = (k + d + 1) + 1 from by omega, spec_spread.l0, if_pos (by rw [fill_len (by omega)]; omega), if_pos (by omega), if_pos (by omega), if_neg (by omega), Option.bind_some, hp.1, ← rd_parts (by omega) (by omega), fill_set (by omega), fill_rd (by omega) (by omega) (by omega), w64 (n := (i : Int) + 1) (by omega) (by omega), show (i : Int) + 1 = ((i + 1 : Nat) : Int) from by omega]
    rw [rd_parts (by omega) (by omega)]
    rw [w64 (n := left - n * rd W i / s) (by omega) (by omega)]
    refine ih k (i + 1) _ (by omega) ?_ (by omega) (by omega)
    rw [hleft, show ((i + 1 : Nat) : Int) = (i : Int) + 1 from by omega, pre_step (by omega) (by omega), rd_parts (by omega) (by omega)]
    omega
theorem spec_spread_ok {n : Int} {W : List Int} (hn : 0 ≤ n ∧ n ≤ 400) (hW : Bd W 0 5) (h1 : 1 ≤ (W.length : Int)) (h5 : (W.length : Int) ≤ 5) (k : Nat) (hk : 20 ≤ k) : spec_spread.f k n W = some (spreadF n W) := by
  have hs := (sf_range hW W.length 0 (by omega) (by omega))
  rw [sf_zero] at hs
  have hpl := parts_len n W.sum W
  unfold spec_spread.f
  rw [if_pos (by omega), if_pos (by omega), Option.bind_some, spec_total_ok (fun j a b => by have := hW j a b; omega) (by omega) k (by omega), Option.bind_some, List.length_replicate, Int.toNat_natCast, w64 (n := (W.length : Int) - 1) (by omega) (by omega)]
  unfold spreadF
  by_cases h0 : W.sum = 0
  · rw [if_pos h0, if_pos h0, if_pos (by omega), if_pos (by omega), if_pos (by omega), show ((W.length : Int) - 1).toNat = W.length - 1 from by omega]
  · rw [if_neg h0, if_neg h0]
    have hp : Bd (parts n W.sum W) 0 2000 := fun j j0 j1 => by
      rw [rd_parts j0 (by omega)]
      exact (part_val hn (hW j j0 (by omega)) (by omega)).2
    have hm := missing_range (n := n) (s := W.sum) (by omega) rfl (fun w hw => (bd_mem hW w hw).1)
    have hps := (sf_range hp W.length 0 (by omega) (by omega))
    rw [sf_zero] at hps
    have e := spec_spread_parts hn (s := W.sum) (by omega) hW h5 W.length (k - W.length - 1) 0 n (by omega) (by rw [show ((0 : Nat) : Int) = 0 from rfl, pre_zero]; omega) (by omega) (by omega)
    rw [show k - W.length - 1 + W.length + 1 = k from by omega] at e
    rw [List.take_zero, List.nil_append, Int.natCast_zero] at e
    rw [e]
    have := spec_spread_raise hW h5 W.length (k - W.length - 1) 0 (parts n W.sum W) (n - (parts n W.sum W).sum) (by omega) hpl (by omega) hm.1 hm.2 (by omega) (fun j j0 j1 => by have := hp j (by omega) (by omega); omega)
    simpa using this

theorem contains_loop {l : List Int} (hl : (l.length : Int) ≤ 1048576) (d : Nat) : ∀ (k i : Nat), i + d = l.length → d + 1 ≤ k → ∃ r, slices_IndexFunc_int_int.l0 k l (l.length : Int) (i : Int) = some r ∧ ((r < 0 ∧ ∀ j : Int, i ≤ j → j < (l.length : Int) → 0 ≤ rd l j ∧ rd l j ≤ 5) ∨ (0 ≤ r ∧ ∃ j : Int, i ≤ j ∧ j < (l.length : Int) ∧ ¬ (0 ≤ rd l j ∧ rd l j ≤ 5))) := by
  induction d with
  | zero =>
    intro k i hi hk
    obtain ⟨k, rfl⟩ : ∃ m, k = m + 1 := ⟨k - 1, by omega⟩
    rw [slices_IndexFunc_int_int.l0, if_neg (by omega)]
    exact ⟨_, rfl, .inl ⟨by omega, fun j j0 j1 => by omega⟩⟩
  | succ d ih =>
    intro k i hi hk
    obtain ⟨k, rfl⟩ : ∃ m, k = m + 1 := ⟨k - 1, by omega⟩
    rw [slices_IndexFunc_int_int.l0, if_pos (by omega), if_pos (by omega), if_pos (by omega), impl_SpreadBy_lit.f, within_eq, Option.bind_some, Option.bind_some]
    by_cases h : 0 ≤ rd l i ∧ rd l i ≤ 5
    · obtain ⟨r, e, hr⟩ := ih k (i + 1) (by omega) (by omega)
      rw [decide_eq_true h, if_neg (by decide), w64 (n := (i : Int) + 1) (by omega) (by omega), show (i : Int) + 1 = ((i + 1 : Nat) : Int) from by omega]
      refine ⟨r, e, ?_⟩
      rcases hr with ⟨hr, q⟩ | ⟨hr, j, j0, j1, q⟩
      · refine .inl ⟨hr, fun j j0 j1 => ?_⟩
        by_cases e' : j = i
        · rw [e']; exact h
        · exact q j (by omega) j1
      · exact .inr ⟨hr, j, by omega, j1, q⟩
    · rw [decide_eq_false h, if_pos (by decide)]
      exact ⟨_, rfl, .inr ⟨by omega, i, by omega, by omega, h⟩⟩
theorem contains_ok {l : List Int} (hl : (l.length : Int) ≤ 1048576) (k : Nat) (hk : l.length + 1 ≤ k) (a : Int) : ∃ b, slices_ContainsFunc_int_int.f k l a = some b ∧ (b = false ↔ Bd l 0 5) := by
  obtain ⟨r, e, hr⟩ := contains_loop hl l.length k 0 (by omega) hk
  rw [Int.natCast_zero] at e
  unfold slices_ContainsFunc_int_int.f slices_IndexFunc_int_int.f
  rw [e, Option.bind_some]
  refine ⟨_, rfl, ?_⟩
  rw [decide_eq_false_iff_not]
  constructor
  · intro h
    rcases hr with ⟨_, q⟩ | ⟨hr, _⟩
    · exact fun j j0 j1 => q j (by omega) j1
    · omega
  · intro h
    rcases hr with ⟨hr, _⟩ | ⟨_, j, j0, j1, q⟩
    · omega
    · exact absurd (h j (by omega) j1) q
/-- What SpreadBy takes. -/
def SB (n : Int) (W : List Int) : Prop := (0 ≤ n ∧ n ≤ 400) ∧ (1 ≤ (W.length : Int) ∧ (W.length : Int) ≤ 5) ∧ Bd W 0 5
theorem impl_SpreadBy_ok (n : Int) (W : List Int) (hl : (W.length : Int) ≤ 1048576) (k : Nat) (hk : W.length + 20 ≤ k) : (SB n W ∧ impl_SpreadBy.f k n W = some (spreadF n W)) ∨ (¬ SB n W ∧ impl_SpreadBy.f k n W = some []) := by
  obtain ⟨b, e, hb⟩ := contains_ok hl k (by omega) 0
  unfold impl_SpreadBy.f
  simp only [within_eq, Option.bind_some, decide_eq_true_eq, e]
  by_cases h0 : 0 ≤ n ∧ n ≤ 400
  · rw [if_pos h0]
    by_cases h1 : 1 ≤ (W.length : Int) ∧ (W.length : Int) ≤ 5
    · rw [if_pos h1]
      cases b with
      | true =>
        rw [if_pos rfl]
        refine .inr ⟨fun q => ?_, rfl⟩
        have := hb.2 q.2.2
        cases this
      | false =>
        have hW := hb.1 rfl
        rw [if_neg (by decide), impl_spread_ok h0 hW h1.1 h1.2 k (by omega), Option.bind_some]
        exact .inl ⟨⟨h0, h1, hW⟩, rfl⟩
    · rw [if_neg h1]
      exact .inr ⟨fun q => h1 q.2.1, rfl⟩
  · rw [if_neg h0]
    exact .inr ⟨fun q => h0 q.1, rfl⟩
theorem spec_SpreadBy_loop (n : Int) {W : List Int} (hl : (W.length : Int) ≤ 1048576) (d : Nat) : ∀ (k i : Nat), i + d = W.length → d + 21 ≤ k → (∀ j : Int, 0 ≤ j → j < (i : Int) → 0 ≤ rd W j ∧ rd W j ≤ 5) → (SB n W ∧ spec_SpreadBy.l0 k n W (i : Int) = some (spreadF n W)) ∨ (¬ SB n W ∧ spec_SpreadBy.l0 k n W (i : Int) = some []) := by
  induction d with
  | zero =>
    intro k i hi hk hq
    obtain ⟨k, rfl⟩ : ∃ m, k = m + 1 := ⟨k - 1, by omega⟩
    have hW : Bd W 0 5 := fun j j0 j1 => hq j j0 (by omega)
    rw [spec_SpreadBy.l0, if_neg (by omega)]
    simp only [inrange_eq, Option.bind_some, decide_eq_true_eq]
    by_cases h0 : 0 ≤ n ∧ n ≤ 400
    · rw [if_pos h0]
      by_cases h1 : 1 ≤ (W.length : Int) ∧ (W.length : Int) ≤ 5
      · rw [if_pos h1, spec_spread_ok h0 hW h1.1 h1.2 k (by omega), Option.bind_some]
        exact .inl ⟨⟨h0, h1, hW⟩, rfl⟩
      · rw [if_neg h1]
        exact .inr ⟨fun q => h1 q.2.1, rfl⟩
    · rw [if_neg h0]
      exact .inr ⟨fun q => h0 q.1, rfl⟩
  | succ d ih =>
    intro k i hi hk hq
    obtain ⟨k, rfl⟩ : ∃ m, k = m + 1 := ⟨k - 1, by omega⟩
    rw [spec_SpreadBy.l0, if_pos (by omega), if_pos (by omega), inrange_eq, Option.bind_some]
    by_cases h : 0 ≤ rd W i ∧ rd W i ≤ 5
    · rw [decide_eq_true h, if_pos rfl, w64 (n := (i : Int) + 1) (by omega) (by omega), show (i : Int) + 1 = ((i + 1 : Nat) : Int) from by omega]
      refine ih k (i + 1) (by omega) (by omega) (fun j j0 j1 => ?_)
      by_cases e' : j = i
      · rw [e']; exact h
      · exact hq j j0 (by omega)
    · rw [decide_eq_false h, if_neg (by decide)]
      exact .inr ⟨fun q => h (q.2.2 i (by omega) (by omega)), rfl⟩
theorem spec_SpreadBy_ok (n : Int) (W : List Int) (hl : (W.length : Int) ≤ 1048576) (k : Nat) (hk : W.length + 21 ≤ k) : (SB n W ∧ spec_SpreadBy.f k n W = some (spreadF n W)) ∨ (¬ SB n W ∧ spec_SpreadBy.f k n W = some []) := by
  unfold spec_SpreadBy.f
  have := spec_SpreadBy_loop n hl W.length k 0 (by omega) hk (fun j j0 j1 => by omega)
  rwa [Int.natCast_zero] at this
theorem spreadF_len (n : Int) (W : List Int) : (spreadF n W).length = W.length := by
  unfold spreadF
  split
  · rw [List.length_set, List.length_replicate]
  · rw [bump_len, parts_len]
/-- Both tell the same parts; no more than five. -/
theorem spreads_ok (n : Int) (W : List Int) (hl : (W.length : Int) ≤ 1048576) : ∃ r : List Int, (∀ k, W.length + 21 ≤ k → impl_SpreadBy.f k n W = some r) ∧ (∀ k, W.length + 21 ≤ k → spec_SpreadBy.f k n W = some r) ∧ r.length ≤ 5 ∧ (r = [] ∨ (SB n W ∧ r = spreadF n W)) := by
  by_cases h : SB n W
  · refine ⟨spreadF n W, fun k hk => ?_, fun k hk => ?_, by have := spreadF_len n W; have := h.2.1.2; omega, .inr ⟨h, rfl⟩⟩
    · rcases impl_SpreadBy_ok n W hl k (by omega) with ⟨_, e⟩ | ⟨q, _⟩
      · exact e
      · exact absurd h q
    · rcases spec_SpreadBy_ok n W hl k (by omega) with ⟨_, e⟩ | ⟨q, _⟩
      · exact e
      · exact absurd h q
  · refine ⟨[], fun k hk => ?_, fun k hk => ?_, by simp, .inl rfl⟩
    · rcases impl_SpreadBy_ok n W hl k (by omega) with ⟨q, _⟩ | ⟨_, e⟩
      · exact absurd q h
      · exact e
    · rcases spec_SpreadBy_ok n W hl k (by omega) with ⟨q, _⟩ | ⟨_, e⟩
      · exact absurd q h
      · exact e

theorem toIntS_loop {l : List Int} (hl : (l.length : Int) ≤ 1048576) (d : Nat) : ∀ (k i : Nat), i + d = l.length → d + 1 ≤ k → laws_toIntS.l0 k l (l.take i ++ List.replicate d 0) (i : Int) = some l := by
  induction d with
  | zero =>
    intro k i hi hk
    obtain ⟨k, rfl⟩ : ∃ m, k = m + 1 := ⟨k - 1, by omega⟩
    rw [laws_toIntS.l0, if_neg (by omega), List.take_of_length_le (by omega)]
    simp
  | succ d ih =>
    intro k i hi hk
    obtain ⟨k, rfl⟩ : ∃ m, k = m + 1 := ⟨k - 1, by omega⟩
    have e : (l.take i ++ List.replicate (d + 1) 0).set (i : Int).toNat (rd l i) = l.take (i + 1) ++ List.replicate d 0 := by
      rw [Int.toNat_natCast, List.replicate_succ, List.set_append_right _ _ (by rw [List.length_take]; omega), List.length_take, show i - min i l.length = 0 from by omega, List.set_cons_zero, List.take_succ_eq_append_getElem (by omega), rd_get (by omega) (by omega), List.append_assoc]
      rfl
    have hlen : ((l.take i ++ List.replicate (d + 1) (0 : Int)).length : Int) = l.length := by
      rw [List.length_append, List.length_take, List.length_replicate]
      omega
    rw [laws_toIntS.l0, if_pos (by omega), if_pos (by omega), if_pos (by rw [hlen]; omega), e, w64 (n := (i : Int) + 1) (by omega) (by omega), show (i : Int) + 1 = ((i + 1 : Nat) : Int) from by omega]
    exact ih k (i + 1) (by omega) (by omega)
theorem toIntS_ok {l : List Int} (hl : (l.length : Int) ≤ 1048576) (k : Nat) (hk : l.length + 1 ≤ k) : laws_toIntS.f k l = some l := by
  unfold laws_toIntS.f
  rw [if_pos (by omega), if_pos (by omega)]
  have h := toIntS_loop hl l.length k 0 (by omega) hk
  simpa using h
theorem eqIntS_loop {l : List Int} (hl : (l.length : Int) ≤ 1048576) (d : Nat) : ∀ (k : Nat) (i : Int), i + d = (l.length : Int) → 0 ≤ i → d + 1 ≤ k → laws_eqIntS.l0 k l l i = some true := by
  induction d with
  | zero =>
    intro k i hi h0 hk
    obtain ⟨k, rfl⟩ : ∃ m, k = m + 1 := ⟨k - 1, by omega⟩
    rw [laws_eqIntS.l0, if_neg (by omega)]
  | succ d ih =>
    intro k i hi h0 hk
    obtain ⟨k, rfl⟩ : ∃ m, k = m + 1 := ⟨k - 1, by omega⟩
    rw [laws_eqIntS.l0, if_pos (by omega), if_pos h0, if_pos (by omega), if_pos rfl, w64 (n := i + 1) (by omega) (by omega)]
    exact ih k (i + 1) (by omega) (by omega) (by omega)
theorem eqIntS_ok {l : List Int} (hl : (l.length : Int) ≤ 1048576) (k : Nat) (hk : l.length + 1 ≤ k) : laws_eqIntS.f k l l = some true := by
  unfold laws_eqIntS.f
  rw [if_pos rfl]
  exact eqIntS_loop hl l.length k 0 (by omega) (by omega) hk

theorem mark_loop (d : Nat) : ∀ (k : Nat) (L : List Int) (c i : Int), i + d = (L.length : Int) → 0 ≤ i → (L.length : Int) ≤ 1048576 → 0 ≤ c → c ≤ 2000000 + i → d + 1 ≤ k →
    ∃ L', laws_markIntS.l0 k L c i = some (c + d, L') ∧ L'.length = L.length ∧ (∀ j : Int, 0 ≤ j → j < i → rd L' j = rd L j) ∧ ∀ j : Int, i ≤ j → j < (L.length : Int) → rd L' j = c + (j - i) := by
  induction d with
  | zero =>
    intro k L c i hi h0 hl hc hc' hk
    obtain ⟨k, rfl⟩ : ∃ m, k = m + 1 := ⟨k - 1, by omega⟩
    rw [laws_markIntS.l0, if_neg (by omega)]
    exact ⟨L, by simp, rfl, fun j _ _ => rfl, fun j j0 j1 => by omega⟩
  | succ d ih =>
    intro k L c i hi h0 hl hc hc' hk
    obtain ⟨k, rfl⟩ : ∃ m, k = m + 1 := ⟨k - 1, by omega⟩
    rw [laws_markIntS.l0, if_pos (by omega), if_pos h0, w64 (n := c + 1) (by omega) (by omega), w64 (n := i + 1) (by omega) (by omega)]
    obtain ⟨L', e, q1, q2, q3⟩ := ih k (L.set i.toNat c) (c + 1) (i + 1) (by rw [List.length_set]; omega) (by omega) (by rw [List.length_set]; omega) (by omega) (by omega) (by omega)
    rw [List.length_set] at q1 q3
    refine ⟨L', by rw [e]; congr 2; omega, q1, fun j j0 j1 => ?_, fun j j0 j1 => ?_⟩
    · rw [q2 j j0 (by omega), rd_set h0 (by omega) j0, if_neg (by omega)]
    · by_cases e' : j = i
      · rw [q2 j (by omega) (by omega), rd_set h0 (by omega) (by omega), if_pos e']
        omega
      · rw [q3 j (by omega) j1]
        omega
theorem held_loop (d : Nat) : ∀ (k : Nat) (L : List Int) (c i : Int), i + d = (L.length : Int) → 0 ≤ i → (L.length : Int) ≤ 1048576 → 0 ≤ c → c ≤ 2000000 + i → d + 1 ≤ k → (∀ j : Int, i ≤ j → j < (L.length : Int) → rd L j = c + (j - i)) → laws_heldIntS.l0 k L c i = some (c + d) := by
  induction d with
  | zero =>
    intro k L c i hi h0 hl hc hc' hk hq
    obtain ⟨k, rfl⟩ : ∃ m, k = m + 1 := ⟨k - 1, by omega⟩
    rw [laws_heldIntS.l0, if_neg (by omega)]
    simp
  | succ d ih =>
    intro k L c i hi h0 hl hc hc' hk hq
    obtain ⟨k, rfl⟩ : ∃ m, k = m + 1 := ⟨k - 1, by omega⟩
    have h1 := hq i (by omega) (by omega)
    rw [laws_heldIntS.l0, if_pos (by omega), if_pos h0, if_pos (by omega), w64 (n := c + 1) (by omega) (by omega), w64 (n := i + 1) (by omega) (by omega), ih k L (c + 1) (i + 1) (by omega) (by omega) hl (by omega) (by omega) (by omega) (fun j j0 j1 => by rw [hq j (by omega) j1]; omega)]
    congr 1
    omega
theorem marks1_ok (A : List Int) (hA : (A.length : Int) ≤ 1048576) (k : Nat) (hk : A.length + 1 ≤ k) : ∃ A', laws_markIntS.f k A 1 = some (1 + (A.length : Int), A') ∧ ∀ k', A.length + 1 ≤ k' → laws_heldIntS.f k' A' 1 = some (1 + (A.length : Int)) := by
  unfold laws_markIntS.f laws_heldIntS.f
  obtain ⟨A', e1, a1, _, a3⟩ := mark_loop A.length k A 1 0 (by omega) (by omega) (by omega) (by omega) (by omega) (by omega)
  exact ⟨A', e1, fun k' hk' => held_loop A.length k' A' 1 0 (by omega) (by omega) (by omega) (by omega) (by omega) (by omega) (fun j j0 j1 => a3 j j0 (by omega))⟩

theorem FnExactSpreadBy : laws_FnExactSpreadBy.Pure := by
  intro n W _ _ _ _
  refine ⟨W.length + 60, ?_⟩
  unfold laws_FnExactSpreadBy.f
  by_cases hb : (W.length : Int) > 1048576
  · rw [if_pos hb]
  · rw [if_neg hb]
    obtain ⟨r, e1, e2, hr, _⟩ := spreads_ok n W (by omega)
    obtain ⟨P, m1, _⟩ := marks1_ok W (by omega) (W.length + 60) (by omega)
    obtain ⟨Q, m2, m3⟩ := marks1_ok r (by omega) (W.length + 59) (by omega)
    rw [toIntS_ok (l := W) (by omega) (W.length + 60) (by omega), Option.bind_some, e2 _ (by omega), Option.bind_some, Option.bind_some, e1 _ (by omega), Option.bind_some, eqIntS_ok (l := r) (by omega) (W.length + 60) (by omega), Option.bind_some, if_pos rfl, Option.bind_some, eqIntS_ok (l := W) (by omega) (W.length + 60) (by omega), Option.bind_some, if_pos rfl, m1, Option.bind_some]
    dsimp only
    rw [if_neg (by omega), Option.bind_some, laws_FnExactSpreadBy.j0, if_neg (by decide), m2, Option.bind_some]
    dsimp only
    rw [m3 _ (by omega), Option.bind_some, if_neg (by omega), if_pos rfl, toIntS_ok (l := W) (by omega) (W.length + 59) (by omega), Option.bind_some, e1 _ (by omega), Option.bind_some, eqIntS_ok (l := r) (by omega) (W.length + 59) (by omega), Option.bind_some, if_pos rfl, Option.bind_some, if_neg (by omega), if_pos rfl]

end Go.Proofs.Ytnekecbhjlamoaa.Pure
