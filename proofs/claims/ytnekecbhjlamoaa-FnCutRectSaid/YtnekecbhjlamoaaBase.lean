/- Small facts on options, ranges and Go's whole numbers that the plain statements of this seat lean on. No condition. -/
import Derived.Test.YtnekecbhjlamoaaYMore
import Derived.OpenShut
import Derived.Laws.BitsLemmas
namespace Go.Proofs.Ytnekecbhjlamoaa.Base
open Go.RowKit Go.Proofs.YtnekecbhjlamoaaW.PrintWords Go.Proofs.YtnekecbhjlamoaaW.PrintLast Go.Proofs.YtnekecbhjlamoaaW.PrintMore

/-- A rectangle that the program calls valid. -/
abbrev VR (x y w h : Int) : Prop := 0 ≤ w ∧ w ≤ 400 ∧ 0 ≤ h ∧ h ≤ 400 ∧ -1000 ≤ x ∧ x + w ≤ 1000 ∧ -1000 ≤ y ∧ y + h ≤ 1000
/-- A view that the program calls valid. -/
abbrev VV (t p f : Int) : Prop := 0 ≤ t ∧ t ≤ 500 ∧ 1 ≤ p ∧ p ≤ 500 ∧ 0 ≤ f ∧ (f ≤ t - p ∨ f ≤ 0)
/-- An item that is placed, valid. -/
abbrev VP (x y rx ry w h rw rh a : Int) : Prop := (-300 ≤ x ∧ x ≤ 300) ∧ (-300 ≤ y ∧ y ≤ 300) ∧ (0 ≤ rx ∧ rx ≤ 1000) ∧ (0 ≤ ry ∧ ry ≤ 1000) ∧ (-300 ≤ w ∧ w ≤ 300) ∧ (-300 ≤ h ∧ h ≤ 300) ∧ (0 ≤ rw ∧ rw ≤ 1000) ∧ (0 ≤ rh ∧ rh ≤ 1000) ∧ 0 ≤ a ∧ a ≤ 8
/-- An item that is packed, valid. -/
abbrev VK (w h s a px py : Int) : Prop := (0 ≤ w ∧ w ≤ 30) ∧ (0 ≤ h ∧ h ≤ 30) ∧ (0 ≤ s ∧ s ≤ 3) ∧ (0 ≤ a ∧ a ≤ 8) ∧ (0 ≤ px ∧ px ≤ 10) ∧ 0 ≤ py ∧ py ≤ 10

theorem w64 {n : Int} (h : -9223372036854775808 ≤ n) (h' : n ≤ 9223372036854775807) : wrap64 n = n := by
  unfold wrap64
  omega
theorem w64_range (n : Int) : -9223372036854775808 ≤ wrap64 n ∧ wrap64 n ≤ 9223372036854775807 := by
  unfold wrap64
  omega
theorem i64 {n : Int} (h : (Lit.int .i64 n).wf = true) : -9223372036854775808 ≤ n ∧ n ≤ 9223372036854775807 := Go.bounds_i64 h
theorem mx_comm (a b : Int) : mx a b = mx b a := by
  unfold mx
  split <;> split <;> omega
theorem mn_comm (a b : Int) : mn a b = mn b a := by
  unfold mn
  split <;> split <;> omega
theorem mx_eq (a b : Int) : mx a b = max a b := by
  unfold mx
  split <;> omega
theorem mn_eq (a b : Int) : mn a b = min a b := by
  unfold mn
  split <;> omega
theorem td2 {a : Int} (h : 0 ≤ a) (b : Int) : Int.tdiv a b = a / b := Int.tdiv_eq_ediv_of_nonneg h
theorem tm2 {a : Int} (h : 0 ≤ a) (b : Int) : Int.tmod a b = a % b := Int.tmod_eq_emod_of_nonneg h

theorem mn_mx (n m : Int) : mn (mx n 0) (mx m 0) = mx 0 (mn n m) := by
  rw [mn_eq, mx_eq, mx_eq, mx_eq, mn_eq]
  omega
/-- The second rectangle's sides lie between the first one's. -/
abbrev IN (x y w h x' y' w' h' : Int) : Prop := x ≤ x' ∧ y ≤ y' ∧ x' + w' ≤ x + w ∧ y' + h' ≤ y + h
theorem area_range {w h : Int} (w0 : 0 ≤ w) (w1 : w ≤ 400) (h0 : 0 ≤ h) (h1 : h ≤ 400) : 0 ≤ w * h ∧ w * h ≤ 160000 :=
  ⟨Int.mul_nonneg w0 h0, Int.le_trans (Int.mul_le_mul w1 h1 h0 (by omega)) (by omega)⟩

theorem xor_range {a b : Int} (ha : 0 ≤ a) (ha' : a < 4611686018427387904) (hb : 0 ≤ b) (hb' : b < 4611686018427387904) : 0 ≤ Go.bits .xor .i64 a b := by
  obtain ⟨m, rfl⟩ := Int.eq_ofNat_of_zero_le ha
  obtain ⟨n, rfl⟩ := Int.eq_ofNat_of_zero_le hb
  have hm : m < 2 ^ 62 := by omega
  have hn : n < 2 ^ 62 := by omega
  have hm' : m % 2 ^ IntKind.i64.bits = m := Nat.mod_eq_of_lt (Nat.lt_of_lt_of_le hm (by decide))
  have hn' : n % 2 ^ IntKind.i64.bits = n := Nat.mod_eq_of_lt (Nat.lt_of_lt_of_le hn (by decide))
  have hx : m ^^^ n < 2 ^ 62 := Nat.xor_lt_two_pow hm hn
  simp only [Go.bits, BitVec.ofInt_natCast, BitVec.toNat_xor, BitVec.toNat_ofNat, hm', hn']
  rw [Go.IntKind.wrap_i64]
  omega
/-- All numbers of a list are bytes. -/
def Bytes (s : List Int) : Prop := ∀ x ∈ s, 0 ≤ x ∧ x ≤ 255
theorem bytes_of {s : List Int} (h : ∀ n ∈ s, (Lit.int .u8 n).wf = true) : Bytes s := fun x hx => Go.bounds_u8 (h x hx)
theorem rd_mem {L : List Int} {i : Int} (h0 : 0 ≤ i) (h1 : i < (L.length : Int)) : rd L i ∈ L := by
  have h : i.toNat < L.length := by omega
  unfold rd
  rw [List.getD_eq_getElem?_getD, List.getElem?_eq_getElem h]
  exact List.getElem_mem h
theorem rd_byte {s : List Int} (hs : Bytes s) (i : Int) : 0 ≤ rd s i ∧ rd s i ≤ 255 := by
  unfold rd
  rw [List.getD_eq_getElem?_getD]
  by_cases h : i.toNat < s.length
  · rw [List.getElem?_eq_getElem h]
    exact hs _ (List.getElem_mem h)
  · rw [List.getElem?_eq_none (by omega)]
    exact ⟨by decide, by decide⟩
theorem tmod_lt {a n : Int} (h : 0 ≤ a) (hn : 1 ≤ n) : 0 ≤ Int.tmod a n ∧ Int.tmod a n < n := ⟨Int.tmod_nonneg n h, Int.tmod_lt_of_pos a (by omega)⟩

theorem lt_one (z : Int) : (z < 1) = (z ≤ 0) := propext (by omega)
theorem part_range {d m : Int} (d0 : 0 ≤ d) (d1 : d ≤ 400) (m0 : 0 ≤ m) (m1 : m ≤ 2) : 0 ≤ d * m ∧ d * m ≤ 2 * d ∧ d * m ≤ 800 := by
  have h : m = 0 ∨ m = 1 ∨ m = 2 := by omega
  rcases h with rfl | rfl | rfl <;> omega
theorem mul_range {a b A B : Int} (a0 : 0 ≤ a) (a1 : a ≤ A) (b0 : 0 ≤ b) (b1 : b ≤ B) : 0 ≤ a * b ∧ a * b ≤ A * B :=
  ⟨Int.mul_nonneg a0 b0, Int.mul_le_mul a1 b1 b0 (by omega)⟩
theorem div_range {a b : Int} (a0 : 0 ≤ a) (b0 : 0 ≤ b) : 0 ≤ a / b ∧ a / b ≤ a := ⟨Int.ediv_nonneg a0 b0, Int.ediv_le_self _ a0⟩
/-- A view's first line, as near to n as there may be one. -/
abbrev clampV (t p n : Int) : Int := max 0 (min n (t - p))
theorem clampV_eq (t p n : Int) : min (max n 0) (max (t - p) 0) = clampV t p n := by
  unfold clampV
  omega

/-- A place: a number and so many thousandths of a size. -/
abbrev pl (x r s : Int) : Int := x + r * s / 1000
/-- A size: at least 0. -/
abbrev ps (w r s : Int) : Int := max (w + r * s / 1000) 0
/-- Where a placed item begins in a direction, m telling its anchor there. -/
abbrev PX (x r w q m s : Int) : Int := pl x r s - ps w q s * m / 2
/-- Numbers of a placed item that are small enough for the reckoning. -/
abbrev LP (x y rx ry w h rw rh a : Int) : Prop := (-100000 ≤ x ∧ x ≤ 100000) ∧ (-100000 ≤ y ∧ y ≤ 100000) ∧ (0 ≤ rx ∧ rx ≤ 1000) ∧ (0 ≤ ry ∧ ry ≤ 1000) ∧ (-100000 ≤ w ∧ w ≤ 100000) ∧ (-100000 ≤ h ∧ h ≤ 100000) ∧ (0 ≤ rw ∧ rw ≤ 1000) ∧ (0 ≤ rh ∧ rh ≤ 1000) ∧ 0 ≤ a ∧ a ≤ 8
abbrev RM (W H : Int) : Prop := (0 ≤ W ∧ W ≤ 400) ∧ 0 ≤ H ∧ H ≤ 400
/-- The placed item lies in its rectangle. -/
abbrev INS (x y rx ry w h rw rh a W H : Int) : Prop := 0 ≤ PX x rx w rw (a % 3) W ∧ 0 ≤ PX y ry h rh (a / 3) H ∧ PX x rx w rw (a % 3) W + ps w rw W ≤ W ∧ PX y ry h rh (a / 3) H + ps h rh H ≤ H
theorem part_range' {d m D : Int} (d0 : 0 ≤ d) (d1 : d ≤ D) (m0 : 0 ≤ m) (m1 : m ≤ 2) : 0 ≤ d * m ∧ d * m ≤ 2 * d ∧ d * m ≤ 2 * D := by
  have h : m = 0 ∨ m = 1 ∨ m = 2 := by omega
  rcases h with rfl | rfl | rfl <;> omega
theorem thou {r s : Int} (r0 : 0 ≤ r) (r1 : r ≤ 1000) (s0 : 0 ≤ s) (s1 : s ≤ 400) : 0 ≤ r * s ∧ r * s ≤ 400000 ∧ 0 ≤ r * s / 1000 ∧ r * s / 1000 ≤ 400 := by
  have h := mul_range r0 r1 s0 s1
  omega
/-- One direction of a placed item, as the program reckons it. -/
theorem dir_eq {x r w q m s : Int} (hx : -100000 ≤ x ∧ x ≤ 100000) (hr : 0 ≤ r ∧ r ≤ 1000) (hw : -100000 ≤ w ∧ w ≤ 100000) (hq : 0 ≤ q ∧ q ≤ 1000) (hm : 0 ≤ m ∧ m ≤ 2) (hs : 0 ≤ s ∧ s ≤ 400) :
    wrap64 (w + wrap64 (Int.tdiv (wrap64 (q * s)) 1000)) = w + q * s / 1000 ∧ wrap64 (x + wrap64 (Int.tdiv (wrap64 (r * s)) 1000)) = pl x r s ∧ wrap64 (Int.tdiv (wrap64 (ps w q s * m)) 2) = ps w q s * m / 2 ∧ wrap64 (pl x r s - ps w q s * m / 2) = PX x r w q m s ∧ 0 ≤ ps w q s * m ∧ -1000000 ≤ pl x r s ∧ pl x r s ≤ 1000000 ∧ ps w q s * m / 2 ≤ 1000000 ∧ 0 ≤ ps w q s * m / 2 ∧ ps w q s * m ≤ 2 * ps w q s := by
  have h1 := thou hr.1 hr.2 hs.1 hs.2
  have h2 := thou hq.1 hq.2 hs.1 hs.2
  have h3 := part_range' (d := ps w q s) (D := 200000) (by unfold ps; omega) (by unfold ps; omega) hm.1 hm.2
  rw [w64 (n := q * s) (by omega) (by omega), td2 h2.1, w64 (n := q * s / 1000) (by omega) (by omega), w64 (n := w + q * s / 1000) (by omega) (by omega), w64 (n := r * s) (by omega) (by omega), td2 h1.1, w64 (n := r * s / 1000) (by omega) (by omega), w64 (n := x + r * s / 1000) (by omega) (by omega)]
  unfold PX pl
  generalize ps w q s * m = z at *
  rw [w64 (n := z) (by omega) (by omega), td2 h3.1, w64 (n := z / 2) (by omega) (by omega), w64 (by omega) (by omega)]
  refine ⟨rfl, rfl, rfl, rfl, ?_⟩
  omega
theorem ps_nonneg (w r s : Int) : 0 ≤ ps w r s := by
  unfold ps
  omega
theorem pl_fix (x s : Int) : pl x 0 s = x := by
  unfold pl
  rw [Int.zero_mul]
  omega
theorem ps_fix {A : Int} (h : 0 ≤ A) (s : Int) : ps A 0 s = A := by
  unfold ps
  rw [Int.zero_mul]
  omega
theorem PX_fix (x r w q m s z : Int) : PX (pl x r s) 0 (ps w q s) 0 m z = PX x r w q m s := by
  unfold PX
  rw [pl_fix, ps_fix (ps_nonneg w q s)]
theorem PX_fix0 (x r w q m s z : Int) : 0 + (PX x r w q m s - PX 0 0 (ps w q s) 0 m z) = pl x r s := by
  unfold PX
  rw [pl_fix, ps_fix (ps_nonneg w q s)]
  omega
theorem PX_0 (x r w q s : Int) : PX x r w q 0 s = pl x r s := by
  unfold PX
  rw [Int.mul_zero]
  omega
theorem PX_2 (x r w q s : Int) : PX x r w q 2 s = pl x r s - ps w q s := by
  unfold PX
  omega
theorem PX_between {x r w q m s : Int} (h0 : 0 ≤ m) (h1 : m ≤ 2) : PX x r w q m s ≤ pl x r s ∧ pl x r s - ps w q s ≤ PX x r w q m s := by
  have h := part_range' (d := ps w q s) (m := m) (ps_nonneg w q s) (Int.le_refl _) h0 h1
  unfold PX
  generalize ps w q s * m = z at *
  omega
theorem PX_shift (x r w q m s c : Int) : PX (x + (c - PX x r w q m s)) r w q m s = c := by
  unfold PX pl
  omega
/-- The least number from i on, of d, that Q holds of; -1 if there is none. -/
def least (Q : Int → Bool) : Nat → Int → Int
  | 0, _ => -1
  | d + 1, i => if Q i = true then i else least Q d (i + 1)
theorem least_tells (Q : Int → Bool) (d : Nat) : ∀ i : Int, 0 ≤ i → (least Q d i = -1 ∧ ∀ j, i ≤ j → j < i + d → Q j = false) ∨ (i ≤ least Q d i ∧ least Q d i < i + d ∧ Q (least Q d i) = true ∧ ∀ j, i ≤ j → j < least Q d i → Q j = false) := by
  induction d with
  | zero =>
    intro i _
    exact .inl ⟨rfl, fun j h1 h2 => by omega⟩
  | succ d ih =>
    intro i h0
    by_cases h : Q i = true
    · have e : least Q (d + 1) i = i := by unfold least; rw [if_pos h]
      rw [e]
      exact .inr ⟨by omega, by omega, h, fun j h1 h2 => by omega⟩
    · have hf : Q i = false := by simpa using h
      have e : least Q (d + 1) i = least Q d (i + 1) := by rw [least, if_neg h]
      rw [e]
      rcases ih (i + 1) (by omega) with ⟨h1, h2⟩ | ⟨h1, h2, h3, h4⟩
      · refine .inl ⟨h1, fun j a b => ?_⟩
        by_cases q : j = i
        · rw [q]; exact hf
        · exact h2 j (by omega) (by omega)
      · refine .inr ⟨by omega, by omega, h3, fun j a b => ?_⟩
        by_cases q : j = i
        · rw [q]; exact hf
        · exact h4 j (by omega) b

/-- The function comes to an answer. -/
def Tot {α : Type} (o : Option α) : Prop := ∃ v, o = some v
theorem Tot.of {α : Type} (v : α) : Tot (some v) := ⟨v, rfl⟩
theorem Tot.eq {α : Type} {o : Option α} {v : α} (h : o = some v) : Tot o := ⟨v, h⟩
theorem Tot.bind {α β : Type} {o : Option α} {f : α → Option β} (h : Tot o) (k : ∀ v, Tot (f v)) : Tot (o.bind f) := by
  obtain ⟨v, rfl⟩ := h
  exact k v
theorem Tot.ite {α : Type} {c : Prop} [Decidable c] {a b : Option α} (h : Tot a) (k : Tot b) : Tot (if c then a else b) := by
  split
  · exact h
  · exact k
theorem bind_id {α : Type} (o : Option α) : (o.bind fun t => some t) = o := by cases o <;> rfl
theorem bne_self_false {α : Type} [DecidableEq α] (a : α) : (a != a) = false := by simp
end Go.Proofs.Ytnekecbhjlamoaa.Base
