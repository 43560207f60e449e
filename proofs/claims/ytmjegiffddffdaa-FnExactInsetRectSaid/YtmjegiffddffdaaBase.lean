/- Small facts on options, ranges and Go's whole numbers that the plain statements of this seat lean on. No condition. -/
import Derived.Test.YtmjegiffddffdaaWMore
import Derived.OpenShut
import Derived.Laws.BitsLemmas
namespace Go.Proofs.Ytmjegiffddffdaa.Base
open Go.RowKit Go.Proofs.YtmjegiffddffdaaW.PrintWords Go.Proofs.YtmjegiffddffdaaW.PrintLast Go.Proofs.YtmjegiffddffdaaW.PrintMore

/-- A rectangle that the program calls valid. -/
abbrev VR (x y w h : Int) : Prop := 0 ≤ w ∧ w ≤ 400 ∧ 0 ≤ h ∧ h ≤ 400 ∧ -1000 ≤ x ∧ x + w ≤ 1000 ∧ -1000 ≤ y ∧ y + h ≤ 1000
/-- A view that the program calls valid. -/
abbrev VV (t p f : Int) : Prop := 0 ≤ t ∧ t ≤ 500 ∧ 1 ≤ p ∧ p ≤ 500 ∧ 0 ≤ f ∧ (f ≤ t - p ∨ f ≤ 0)
/-- An item that is placed, valid. -/
abbrev VP (x y rx ry w h rw rh a : Int) : Prop := (-300 ≤ x ∧ x ≤ 300) ∧ (-300 ≤ y ∧ y ≤ 300) ∧ (0 ≤ rx ∧ rx ≤ 1000) ∧ (0 ≤ ry ∧ ry ≤ 1000) ∧ (-300 ≤ w ∧ w ≤ 300) ∧ (-300 ≤ h ∧ h ≤ 300) ∧ (0 ≤ rw ∧ rw ≤ 1000) ∧ (0 ≤ rh ∧ rh ≤ 1000) ∧ 0 ≤ a ∧ a ≤ 8
/-- An item that is packed, valid. -/
abbrev VK (w h s a px py : Int) : Prop := (0 ≤ w ∧ w ≤ 30) ∧ (0 ≤ h ∧ h ≤ 30) ∧ (0 ≤ s ∧ s ≤ 3) ∧ (0 ≤ a ∧ a ≤ 8) ∧ (0 ≤ px ∧ px ≤ 10) ∧ 0 ≤ py ∧ py ≤ 10

theorem w64 {n : Int} (h : -9223372036854775808 ≤ n) (h' : n ≤ 9223372036854775807) : wrap64 n = n := by
  unfold wrap64
  omega
theorem w64_range (n : Int) : -9223372036854775808 ≤ wrap64 n ∧ wrap64 n ≤ 9223372036854775807 := by
  unfold wrap64
  omega
theorem i64 {n : Int} (h : (Lit.int .i64 n).wf = true) : -9223372036854775808 ≤ n ∧ n ≤ 9223372036854775807 := Go.bounds_i64 h
theorem mx_comm (a b : Int) : mx a b = mx b a := by
  unfold mx
  split <;> split <;> omega
theorem mn_comm (a b : Int) : mn a b = mn b a := by
  unfold mn
  split <;> split <;> omega
theorem mx_eq (a b : Int) : mx a b = max a b := by
  unfold mx
  split <;> omega
theorem mn_eq (a b : Int) : mn a b = min a b := by
  unfold mn
  split <;> omega
theorem td2 {a : Int} (h : 0 ≤ a) (b : Int) : Int.tdiv a b = a / b := Int.tdiv_eq_ediv_of_nonneg h
theorem tm2 {a : Int} (h : 0 ≤ a) (b : Int) : Int.tmod a b = a % b := Int.tmod_eq_emod_of_nonneg h

theorem mn_mx (n m : Int) : mn (mx n 0) (mx m 0) = mx 0 (mn n m) := by
  rw [mn_eq, mx_eq, mx_eq, mx_eq, mn_eq]
  omega
/-- The second rectangle's sides lie between the first one's. -/
abbrev IN (x y w h x' y' w' h' : Int) : Prop := x ≤ x' ∧ y ≤ y' ∧ x' + w' ≤ x + w ∧ y' + h' ≤ y + h
theorem area_range {w h : Int} (w0 : 0 ≤ w) (w1 : w ≤ 400) (h0 : 0 ≤ h) (h1 : h ≤ 400) : 0 ≤ w * h ∧ w * h ≤ 160000 :=
  ⟨Int.mul_nonneg w0 h0, Int.le_trans (Int.mul_le_mul w1 h1 h0 (by omega)) (by omega)⟩

theorem xor_range {a b : Int} (ha : 0 ≤ a) (ha' : a < 4611686018427387904) (hb : 0 ≤ b) (hb' : b < 4611686018427387904) : 0 ≤ Go.bits .xor .i64 a b := by
  obtain ⟨m, rfl⟩ := Int.eq_ofNat_of_zero_le ha
  obtain ⟨n, rfl⟩ := Int.eq_ofNat_of_zero_le hb
  have hm : m < 2 ^ 62 := by omega
  have hn : n < 2 ^ 62 := by omega
  have hm' : m % 2 ^ IntKind.i64.bits = m := Nat.mod_eq_of_lt (Nat.lt_of_lt_of_le hm (by decide))
  have hn' : n % 2 ^ IntKind.i64.bits = n := Nat.mod_eq_of_lt (Nat.lt_of_lt_of_le hn (by decide))
  have hx : m ^^^ n < 2 ^ 62 := Nat.xor_lt_two_pow hm hn
  simp only [Go.bits, BitVec.ofInt_natCast, BitVec.toNat_xor, BitVec.toNat_ofNat, hm', hn']
  rw [Go.IntKind.wrap_i64]
  omega
/-- All numbers of a list are bytes. -/
def Bytes (s : List Int) : Prop := ∀ x ∈ s, 0 ≤ x ∧ x ≤ 255
theorem bytes_of {s : List Int} (h : ∀ n ∈ s, (Lit.int .u8 n).wf = true) : Bytes s := fun x hx => Go.bounds_u8 (h x hx)
theorem rd_mem {L : List Int} {i : Int} (h0 : 0 ≤ i) (h1 : i < (L.length : Int)) : rd L i ∈ L := by
  have h : i.toNat < L.length := by omega
  unfold rd
  rw [List.getD_eq_getElem?_getD, List.getElem?_eq_getElem h]
  exact List.getElem_mem h
theorem rd_byte {s : List Int} (hs : Bytes s) (i : Int) : 0 ≤ rd s i ∧ rd s i ≤ 255 := by
  unfold rd
  rw [List.getD_eq_getElem?_getD]
  by_cases h : i.toNat < s.length
  · rw [List.getElem?_eq_getElem h]
    exact hs _ (List.getElem_mem h)
  · rw [List.getElem?_eq_none (by omega)]
    exact ⟨by decide, by decide⟩
theorem tmod_lt {a n : Int} (h : 0 ≤ a) (hn : 1 ≤ n) : 0 ≤ Int.tmod a n ∧ Int.tmod a n < n := ⟨Int.tmod_nonneg n h, Int.tmod_lt_of_pos a (by omega)⟩

/-- The function comes to an answer. -/
def Tot {α : Type} (o : Option α) : Prop := ∃ v, o = some v
theorem Tot.of {α : Type} (v : α) : Tot (some v) := ⟨v, rfl⟩
theorem Tot.eq {α : Type} {o : Option α} {v : α} (h : o = some v) : Tot o := ⟨v, h⟩
theorem Tot.bind {α β : Type} {o : Option α} {f : α → Option β} (h : Tot o) (k : ∀ v, Tot (f v)) : Tot (o.bind f) := by
  obtain ⟨v, rfl⟩ := h
  exact k v
theorem Tot.ite {α : Type} {c : Prop} [Decidable c] {a b : Option α} (h : Tot a) (k : Tot b) : Tot (if c then a else b) := by
  split
  · exact h
  · exact k
theorem bind_id {α : Type} (o : Option α) : (o.bind fun t => some t) = o := by cases o <;> rfl
theorem bne_self_false {α : Type} [DecidableEq α] (a : α) : (a != a) = false := by simp
end Go.Proofs.Ytmjegiffddffdaa.Base
