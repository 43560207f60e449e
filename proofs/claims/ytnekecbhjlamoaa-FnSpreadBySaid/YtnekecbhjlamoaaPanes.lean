/- Plain facts on lists of numbers and on panes (sizes and least sizes) that the plain statements of this seat lean on. No condition. -/
import Derived.Test.YtnekecbhjlamoaaBase
namespace Go.Proofs.Ytnekecbhjlamoaa.Base
open Go.RowKit Go.Proofs.YtnekecbhjlamoaaW.PrintWords Go.Proofs.YtnekecbhjlamoaaW.PrintLast Go.Proofs.YtnekecbhjlamoaaW.PrintMore

theorem rd_get {L : List Int} {i : Int} (h0 : 0 ≤ i) (h1 : i < (L.length : Int)) : rd L i = L[i.toNat]'(by omega) := by
  unfold rd
  rw [List.getD_eq_getElem?_getD, List.getElem?_eq_getElem (by omega)]
  rfl
/-- The sum from a place on. -/
def sf (S : List Int) (i : Int) : Int := (S.drop i.toNat).sum
/-- The sum up to a place. -/
def pre (S : List Int) (i : Int) : Int := (S.take i.toNat).sum
theorem sf_step {S : List Int} {i : Int} (h0 : 0 ≤ i) (h1 : i < (S.length : Int)) : sf S i = rd S i + sf S (i + 1) := by
  unfold sf
  rw [List.drop_eq_getElem_cons (by omega), List.sum_cons, rd_get h0 h1, show (i + 1).toNat = i.toNat + 1 from by omega]
theorem sf_end {S : List Int} {i : Int} (h : (S.length : Int) ≤ i) : sf S i = 0 := by
  unfold sf
  rw [List.drop_eq_nil_of_le (by omega)]
  rfl
theorem sf_zero (S : List Int) : sf S 0 = S.sum := rfl
theorem pre_zero (S : List Int) : pre S 0 = 0 := rfl
theorem pre_step {S : List Int} {i : Int} (h0 : 0 ≤ i) (h1 : i < (S.length : Int)) : pre S (i + 1) = pre S i + rd S i := by
  unfold pre
  rw [show (i + 1).toNat = i.toNat + 1 from by omega, List.take_succ_eq_append_getElem (by omega), List.sum_append, rd_get h0 h1]
  simp
theorem pre_end {S : List Int} {i : Int} (h : (S.length : Int) ≤ i) : pre S i = S.sum := by
  unfold pre
  rw [List.take_of_length_le (by omega)]
theorem pre_sf (S : List Int) (i : Int) : pre S i + sf S i = S.sum := by
  unfold pre sf
  rw [← List.sum_append, List.take_append_drop]
/-- All numbers of a list lie between two. -/
def Bd (S : List Int) (a b : Int) : Prop := ∀ j : Int, 0 ≤ j → j < (S.length : Int) → a ≤ rd S j ∧ rd S j ≤ b
theorem sf_range {S : List Int} {a b : Int} (h : Bd S a b) (d : Nat) : ∀ i : Int, 0 ≤ i → i + d = (S.length : Int) → a * d ≤ sf S i ∧ sf S i ≤ b * d := by
  induction d with
  | zero =>
    intro i h0 hi
    rw [sf_end (by omega)]
    simp
  | succ d ih =>
    intro i h0 hi
    have h1 := h i h0 (by omega)
    have h2 := ih (i + 1) (by omega) (by omega)
    rw [sf_step h0 (by omega), show ((d + 1 : Nat) : Int) = (d : Int) + 1 from by omega, Int.mul_add, Int.mul_add, Int.mul_one, Int.mul_one]
    omega
theorem pre_mono {S : List Int} {b : Int} (h : Bd S 0 b) (d : Nat) : ∀ i : Int, 0 ≤ i → i + d ≤ (S.length : Int) → pre S i ≤ pre S (i + d) := by
  induction d with
  | zero =>
    intro i h0 hi
    simp
  | succ d ih =>
    intro i h0 hi
    have h1 := h (i + d) (by omega) (by omega)
    have h2 := ih i h0 (by omega)
    rw [show i + ((d + 1 : Nat) : Int) = i + d + 1 from by omega, pre_step (by omega) (by omega)]
    omega
theorem pre_le {S : List Int} {b : Int} (h : Bd S 0 b) {i j : Int} (h0 : 0 ≤ i) (h1 : i ≤ j) (h2 : j ≤ (S.length : Int)) : pre S i ≤ pre S j := by
  have := pre_mono h (j - i).toNat i h0 (by omega)
  rwa [show i + ((j - i).toNat : Int) = j from by omega] at this
theorem pre_nonneg {S : List Int} {b : Int} (h : Bd S 0 b) {i : Int} (h0 : 0 ≤ i) (h1 : i ≤ (S.length : Int)) : 0 ≤ pre S i := by
  have := pre_le h (Int.le_refl 0) h0 h1
  rwa [pre_zero] at this
/-- Panes that the program calls valid. -/
structure VPN (S M : List Int) : Prop where
  len1 : 1 ≤ (S.length : Int)
  len6 : (S.length : Int) ≤ 6
  lenM : (M.length : Int) = (S.length : Int)
  each : ∀ j : Int, 0 ≤ j → j < (S.length : Int) → 0 ≤ rd M j ∧ rd M j ≤ 30 ∧ rd M j ≤ rd S j ∧ rd S j ≤ 400
  sum : S.sum ≤ 400
theorem VPN.bdS {S M : List Int} (h : VPN S M) : Bd S 0 400 := fun j h0 h1 => by
  have := h.each j h0 h1
  omega
theorem VPN.bdM {S M : List Int} (h : VPN S M) : Bd M 0 30 := fun j h0 h1 => by
  have := h.each j h0 (by have := h.lenM; omega)
  omega
theorem VPN.sum0 {S M : List Int} (h : VPN S M) : 0 ≤ S.sum := by
  have := (sf_range h.bdS S.length 0 (by omega) (by omega)).1
  rw [sf_zero] at this
  simpa using this
theorem iff_bool {b c : Bool} {P : Prop} (h : b = true ↔ P) (k : c = true ↔ P) : b = c := by
  rw [Bool.eq_iff_iff]
  exact h.trans k.symm
/-- The first place from i on, of d, whose end lies behind n; -1 if there is none. -/
def lineF (S : List Int) (n : Int) : Nat → Int → Int → Int
  | 0, _, _ => -1
  | d + 1, i, acc => if n < acc + rd S i then i else lineF S n d (i + 1) (acc + rd S i)
theorem lineF_tells (S : List Int) (n : Int) (d : Nat) : ∀ i : Int, 0 ≤ i → i + d = (S.length : Int) → pre S i ≤ n →
    (lineF S n d i (pre S i) = -1 ∧ S.sum ≤ n) ∨ (i ≤ lineF S n d i (pre S i) ∧ lineF S n d i (pre S i) < (S.length : Int) ∧ pre S (lineF S n d i (pre S i)) ≤ n ∧ n < pre S (lineF S n d i (pre S i)) + rd S (lineF S n d i (pre S i))) := by
  induction d with
  | zero =>
    intro i h0 hi hp
    refine .inl ⟨rfl, ?_⟩
    rwa [pre_end (by omega)] at hp
  | succ d ih =>
    intro i h0 hi hp
    by_cases h : n < pre S i + rd S i
    · have e : lineF S n (d + 1) i (pre S i) = i := by rw [lineF, if_pos h]
      rw [e]
      exact .inr ⟨by omega, by omega, hp, h⟩
    · have e : lineF S n (d + 1) i (pre S i) = lineF S n d (i + 1) (pre S (i + 1)) := by rw [lineF, if_neg h, pre_step h0 (by omega)]
      rw [e]
      rcases ih (i + 1) (by omega) (by omega) (by rw [pre_step h0 (by omega)]; omega) with q | ⟨q1, q2, q3, q4⟩
      · exact .inl q
      · exact .inr ⟨by omega, q2, q3, q4⟩
end Go.Proofs.Ytnekecbhjlamoaa.Base
