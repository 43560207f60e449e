/- The plain side of FnPackRequest: the printed function answers true at every input; no condition is added. -/
import Derived.Test.YtffihkpnampboaaQFnPackRequestx0
import Derived.Test.YtffihkpnampboaaQFnPackRequestx1
import Derived.Test.YtffihkpnampboaaQFnPackRequestx2
import Derived.Test.YtffihkpnampboaaQFnPackRequestx3
import Derived.Test.YtffihkpnampboaaQFnPackRequestx4
import Derived.Test.YtffihkpnampboaaBase
namespace Go.Proofs.Ytffihkpnampboaa.Pure
open Go.RowKit Go.Proofs.Ytffihkpnampboaa.PFnPackRequest Go.Proofs.YtffihkpnampboaaW.PrintWords Go.Proofs.YtffihkpnampboaaW.PrintLast Go.Proofs.YtffihkpnampboaaW.PrintMore Go.Proofs.Ytffihkpnampboaa.Base
set_option linter.unusedVariables false
set_option linter.unusedSimpArgs false

theorem within_eq (a b c : Int) : impl_within.f a b c = some (decide (b ≤ a ∧ a ≤ c)) := by
  unfold impl_within.f
  by_cases h : b ≤ a
  · rw [if_pos h]; simp [h]
  · rw [if_neg h]; simp [h]

theorem inrange_eq (a b c : Int) : spec_inRange.f a b c = some (decide (b ≤ a ∧ a ≤ c)) := by
  unfold spec_inRange.f
  by_cases h : b ≤ a
  · rw [if_pos h]; simp [h]
  · rw [if_neg h]; simp [h]

theorem impl_ValidPack_eq (w h s : Int) (fx fy ex : Bool) (a px py : Int) : impl_ValidPack.f w h s fx fy ex a px py = some (decide (VK w h s a px py)) := by
  unfold impl_ValidPack.f
  simp only [within_eq, Option.bind_some, decide_eq_true_eq]
  repeat' split
  all_goals
    refine congrArg some ?_
    first
    | (rw [decide_eq_decide]; omega)
    | (symm; rw [decide_eq_false_iff_not]; omega)

theorem spec_validPack_eq (w h s : Int) (fx fy ex : Bool) (a px py : Int) : spec_validPack.f w h s fx fy ex a px py = some (decide (VK w h s a px py)) := by
  unfold spec_validPack.f spec_validSide.f spec_validAnchor.f
  simp only [inrange_eq, Option.bind_some, decide_eq_true_eq]
  repeat' split
  all_goals
    refine congrArg some ?_
    first
    | (rw [decide_eq_decide]; omega)
    | (symm; rw [decide_eq_false_iff_not]; omega)

/-- An item that the program calls valid. -/
abbrev OKP (p : S29) : Prop := VK p.f0 p.f1 p.f2 p.f6 p.f7 p.f8
/-- Items that the program calls valid. -/
def OKL (L : List S29) : Prop := (L.length : Int) ≤ 7 ∧ ∀ j : Nat, j < L.length → OKP (rd_T29 L j)
theorem rdp_get {L : List S29} {i : Nat} (h : i < L.length) : rd_T29 L i = L[i] := by
  unfold rd_T29
  rw [List.getD_eq_getElem?_getD, Int.toNat_natCast, List.getElem?_eq_getElem h]
  rfl
theorem OKL.mem {L : List S29} (h : OKL L) : ∀ p ∈ L, OKP p := by
  intro p hp
  obtain ⟨i, hi, rfl⟩ := List.getElem_of_mem hp
  have := h.2 i hi
  rwa [rdp_get hi] at this
theorem OKL.of_mem {L : List S29} (h7 : (L.length : Int) ≤ 7) (h : ∀ p ∈ L, OKP p) : OKL L := by
  refine ⟨h7, fun j hj => ?_⟩
  rw [rdp_get hj]
  exact h _ (List.getElem_mem hj)
theorem impl_packs_loop {L : List S29} (hl : (L.length : Int) ≤ 1048576) (d : Nat) : ∀ (k i : Nat), i + d = L.length → d + 1 ≤ k → ∃ r, impl_Pack_63.l0 k L (L.length : Int) (i : Int) = some r ∧ ((r < 0 ∧ ∀ j : Nat, i ≤ j → j < L.length → OKP (rd_T29 L j)) ∨ (0 ≤ r ∧ ∃ j : Nat, i ≤ j ∧ j < L.length ∧ ¬ OKP (rd_T29 L j))) := by
  induction d with
  | zero =>
    intro k i hi hk
    obtain ⟨k, rfl⟩ : ∃ m, k = m + 1 := ⟨k - 1, by omega⟩
    rw [impl_Pack_63.l0, if_neg (by omega)]
    exact ⟨_, rfl, .inl ⟨by omega, fun j j0 j1 => by omega⟩⟩
  | succ d ih =>
    intro k i hi hk
    obtain ⟨k, rfl⟩ : ∃ m, k = m + 1 := ⟨k - 1, by omega⟩
    rw [impl_Pack_63.l0, if_pos (by omega), if_pos (by omega), if_pos (by omega), impl_packsOk_lit.f, impl_ValidPack_eq, Option.bind_some, Option.bind_some]
    by_cases h : OKP (rd_T29 L i)
    · obtain ⟨r, e, hr⟩ := ih k (i + 1) (by omega) (by omega)
      rw [decide_eq_true h, if_neg (by decide), w64 (n := (i : Int) + 1) (by omega) (by omega), show (i : Int) + 1 = ((i + 1 : Nat) : Int) from by omega]
      refine ⟨r, e, ?_⟩
      rcases hr with ⟨hr, q⟩ | ⟨hr, j, j0, j1, q⟩
      · refine .inl ⟨hr, fun j j0 j1 => ?_⟩
        by_cases e' : j = i
        · rw [e']; exact h
        · exact q j (by omega) j1
      · exact .inr ⟨hr, j, by omega, j1, q⟩
    · rw [decide_eq_false h, if_pos (by decide)]
      exact ⟨_, rfl, .inr ⟨by omega, i, by omega, by omega, h⟩⟩
theorem impl_packsOk_ok (L : List S29) (hl : (L.length : Int) ≤ 1048576) (k : Nat) (hk : L.length + 1 ≤ k) : (OKL L ∧ impl_packsOk.f k L = some true) ∨ (¬ OKL L ∧ impl_packsOk.f k L = some false) := by
  obtain ⟨r, e, hr⟩ := impl_packs_loop hl L.length k 0 (by omega) hk
  rw [Int.natCast_zero] at e
  unfold impl_packsOk.f impl_Pack_54.f impl_Pack_63.f
  rw [e, Option.bind_some, Option.bind_some]
  by_cases h7 : (L.length : Int) ≤ 7
  · rw [if_pos h7]
    rcases hr with ⟨hr, q⟩ | ⟨hr, j, j0, j1, q⟩
    · rw [decide_eq_false (show ¬ r ≥ 0 by omega)]
      exact .inl ⟨⟨h7, fun j j1 => q j (by omega) j1⟩, rfl⟩
    · rw [decide_eq_true (show r ≥ 0 by omega)]
      exact .inr ⟨fun h => q (h.2 j j1), rfl⟩
  · rw [if_neg h7]
    exact .inr ⟨fun h => h7 h.1, rfl⟩
theorem spec_packs_loop {L : List S29} (hl : (L.length : Int) ≤ 1048576) (d : Nat) : ∀ (k i : Nat), i + d = L.length → d + 1 ≤ k → (∀ j : Nat, j < i → OKP (rd_T29 L j)) → (OKL L ∧ spec_validPacks.l0 k L (i : Int) = some true) ∨ (¬ OKL L ∧ spec_validPacks.l0 k L (i : Int) = some false) := by
  induction d with
  | zero =>
    intro k i hi hk hq
    obtain ⟨k, rfl⟩ : ∃ m, k = m + 1 := ⟨k - 1, by omega⟩
    rw [spec_validPacks.l0, if_neg (by omega)]
    by_cases h7 : (L.length : Int) ≤ 7
    · rw [decide_eq_true h7]
      exact .inl ⟨⟨h7, fun j j1 => hq j (by omega)⟩, rfl⟩
    · rw [decide_eq_false h7]
      exact .inr ⟨fun h => h7 h.1, rfl⟩
  | succ d ih =>
    intro k i hi hk hq
    obtain ⟨k, rfl⟩ : ∃ m, k = m + 1 := ⟨k - 1, by omega⟩
    rw [spec_validPacks.l0, if_pos (by omega), if_pos (by omega), spec_validPack_eq, Option.bind_some]
    by_cases h : OKP (rd_T29 L i)
    · rw [decide_eq_true h, if_pos rfl, w64 (n := (i : Int) + 1) (by omega) (by omega), show (i : Int) + 1 = ((i + 1 : Nat) : Int) from by omega]
      refine ih k (i + 1) (by omega) (by omega) (fun j j1 => ?_)
      by_cases e' : j = i
      · rw [e']; exact h
      · exact hq j (by omega)
    · rw [decide_eq_false h, if_neg (by decide)]
      exact .inr ⟨fun q => h (q.2 i (by omega)), rfl⟩
theorem spec_validPacks_ok (L : List S29) (hl : (L.length : Int) ≤ 1048576) (k : Nat) (hk : L.length + 1 ≤ k) : (OKL L ∧ spec_validPacks.f k L = some true) ∨ (¬ OKL L ∧ spec_validPacks.f k L = some false) := by
  unfold spec_validPacks.f
  have := spec_packs_loop hl L.length k 0 (by omega) hk (fun j j1 => by omega)
  rwa [Int.natCast_zero] at this
theorem down_eq (a b c : Int) (d e f : Bool) (g h i : Int) : impl_Pack_down.f a b c d e f g h i = some (decide (c = 0 ∨ c = 1)) := by
  unfold impl_Pack_down.f
  by_cases h0 : c = 0
  · rw [if_pos h0, decide_eq_true (.inl h0)]
  · rw [if_neg h0]
    refine congrArg some ?_
    rw [Bool.eq_iff_iff]
    simp [h0]
theorem upright_eq (c : Int) : spec_upright.f c = some (decide (c = 0 ∨ c = 1)) := by
  unfold spec_upright.f
  by_cases h0 : c = 0
  · rw [if_pos h0, decide_eq_true (.inl h0)]
  · rw [if_neg h0]
    refine congrArg some ?_
    rw [Bool.eq_iff_iff]
    simp [h0]

/-- The size that items need together. -/
def req : List S29 → Int × Int
  | [] => (0, 0)
  | p :: L => if p.f2 = 0 ∨ p.f2 = 1 then (max (p.f0 + 2 * p.f7) (req L).1, p.f1 + 2 * p.f8 + (req L).2) else (p.f0 + 2 * p.f7 + (req L).1, max (p.f1 + 2 * p.f8) (req L).2)
theorem req_range {L : List S29} (h : ∀ p ∈ L, OKP p) : 0 ≤ (req L).1 ∧ (req L).1 ≤ 50 * L.length ∧ 0 ≤ (req L).2 ∧ (req L).2 ≤ 50 * L.length := by
  induction L with
  | nil => exact ⟨by decide, by decide, by decide, by decide⟩
  | cons p L ih =>
    have h1 := h p List.mem_cons_self
    have h2 := ih (fun q hq => h q (List.mem_cons_of_mem p hq))
    have e : ((p :: L).length : Int) = L.length + 1 := by simp
    rw [req, e]
    split
    · exact ⟨by dsimp only; omega, by dsimp only; omega, by dsimp only; omega, by dsimp only; omega⟩
    · exact ⟨by dsimp only; omega, by dsimp only; omega, by dsimp only; omega, by dsimp only; omega⟩
theorem impl_packRequest_ok (L : List S29) : ∀ k : Nat, L.length + 1 ≤ k → (L.length : Int) ≤ 1048576 → (∀ p ∈ L, OKP p) → impl_packRequest.f k L = some (req L) := by
  induction L with
  | nil =>
    intro k hk _ _
    obtain ⟨k, rfl⟩ : ∃ m, k = m + 1 := ⟨k - 1, by omega⟩
    rw [impl_packRequest.f, if_pos (by simp)]
    rfl
  | cons p L ih =>
    intro k hk hl h
    have e : ((p :: L).length : Int) = L.length + 1 := by simp
    have hk' : L.length + 2 ≤ k := by simpa using hk
    obtain ⟨k, rfl⟩ : ∃ m, k = m + 1 := ⟨k - 1, by omega⟩
    have h1 := h p List.mem_cons_self
    have h2 := fun q hq => h q (List.mem_cons_of_mem p hq)
    have hr := req_range h2
    rw [impl_packRequest.f, if_neg (by omega), if_pos (by omega), impl_Pack_needs.f, Option.bind_some, if_pos (by omega)]
    change ((impl_packRequest.f k L).bind fun bt => (impl_Pack_down.f p.f0 p.f1 p.f2 p.f3 p.f4 p.f5 p.f6 p.f7 p.f8).bind fun t => if t = true then some (mx (wrap64 (p.f0 + wrap64 (2 * p.f7))) bt.1, wrap64 (wrap64 (p.f1 + wrap64 (2 * p.f8)) + bt.2)) else some (wrap64 (wrap64 (p.f0 + wrap64 (2 * p.f7)) + bt.1), mx (wrap64 (p.f1 + wrap64 (2 * p.f8))) bt.2)) = some (req (p :: L))
    rw [ih k (by omega) (by omega) h2, Option.bind_some, down_eq, Option.bind_some, w64 (n := 2 * p.f7) (by omega) (by omega), w64 (n := 2 * p.f8) (by omega) (by omega), w64 (n := p.f0 + 2 * p.f7) (by omega) (by omega), w64 (n := p.f1 + 2 * p.f8) (by omega) (by omega), w64 (n := p.f1 + 2 * p.f8 + (req L).2) (by omega) (by omega), w64 (n := p.f0 + 2 * p.f7 + (req L).1) (by omega) (by omega), mx_eq, mx_eq, req]
    by_cases hd : p.f2 = 0 ∨ p.f2 = 1
    · rw [decide_eq_true hd, if_pos rfl, if_pos hd]
    · rw [decide_eq_false hd, if_neg (by decide), if_neg hd]
theorem spec_request_loop {L : List S29} (hl : (L.length : Int) ≤ 1048576) (h : ∀ p ∈ L, OKP p) (d : Nat) : ∀ k : Nat, d ≤ L.length → d + 1 ≤ k → spec_request.l0 k L (req (L.drop d)).1 (req (L.drop d)).2 ((d : Int) - 1) = some (req L) := by
  induction d with
  | zero =>
    intro k hd hk
    obtain ⟨k, rfl⟩ : ∃ m, k = m + 1 := ⟨k - 1, by omega⟩
    rw [spec_request.l0, if_neg (by omega), List.drop_zero]
  | succ d ih =>
    intro k hd hk
    obtain ⟨k, rfl⟩ : ∃ m, k = m + 1 := ⟨k - 1, by omega⟩
    have e : L.drop d = rd_T29 L d :: L.drop (d + 1) := by rw [List.drop_eq_getElem_cons (by omega), rdp_get (by omega)]
    have h2 : ∀ p ∈ L.drop (d + 1), OKP p := fun p hp => h p (List.mem_of_mem_drop hp)
    have h1 : OKP (rd_T29 L d) := by rw [rdp_get (by omega)]; exact h _ (List.getElem_mem _)
    have hr := req_range h2
    have hld : ((L.drop (d + 1)).length : Int) ≤ 1048576 := by rw [List.length_drop]; omega
    have ih := ih k (by omega) (by omega)
    rw [e, req] at ih
    rw [show ((d + 1 : Nat) : Int) - 1 = (d : Int) from by omega, spec_request.l0, if_pos (by omega), if_pos (by omega), if_pos (by omega), spec_outer.f, Option.bind_some, upright_eq, Option.bind_some]
    dsimp only
    generalize rd_T29 L d = p at *
    rw [w64 (n := (d : Int) - 1) (by omega) (by omega), w64 (n := 2 * p.f7) (by omega) (by omega), w64 (n := 2 * p.f8) (by omega) (by omega), w64 (n := p.f0 + 2 * p.f7) (by omega) (by omega), w64 (n := p.f1 + 2 * p.f8) (by omega) (by omega), Int.add_comm (req (L.drop (d + 1))).2, Int.add_comm (req (L.drop (d + 1))).1, w64 (n := p.f1 + 2 * p.f8 + (req (L.drop (d + 1))).2) (by omega) (by omega), w64 (n := p.f0 + 2 * p.f7 + (req (L.drop (d + 1))).1) (by omega) (by omega), mx_comm _ (p.f0 + 2 * p.f7), mx_comm _ (p.f1 + 2 * p.f8), mx_eq, mx_eq]
    by_cases hu : p.f2 = 0 ∨ p.f2 = 1
    · rw [if_pos hu] at ih
      rw [decide_eq_true hu, if_pos rfl]
      exact ih
    · rw [if_neg hu] at ih
      rw [decide_eq_false hu, if_neg (by decide)]
      exact ih
theorem spec_request_ok {L : List S29} (hl : (L.length : Int) ≤ 1048576) (h : ∀ p ∈ L, OKP p) (k : Nat) (hk : L.length + 1 ≤ k) : spec_request.f k L = some (req L) := by
  unfold spec_request.f
  rw [w64 (n := (L.length : Int) - 1) (by omega) (by omega)]
  have e := spec_request_loop hl h L.length k (Nat.le_refl _) hk
  rw [List.drop_eq_nil_of_le (Nat.le_refl _)] at e
  exact e
theorem impl_PackRequest_ok (L : List S29) (hl : (L.length : Int) ≤ 1048576) (k : Nat) (hk : L.length + 2 ≤ k) : (OKL L ∧ impl_PackRequest.f k L = some (req L)) ∨ (¬ OKL L ∧ impl_PackRequest.f k L = some (-1, -1)) := by
  unfold impl_PackRequest.f
  rcases impl_packsOk_ok L hl k (by omega) with ⟨h, e⟩ | ⟨h, e⟩
  · rw [e, Option.bind_some, if_pos rfl, impl_packRequest_ok L k (by omega) hl h.mem]
    exact .inl ⟨h, rfl⟩
  · rw [e, Option.bind_some, if_neg (by decide)]
    exact .inr ⟨h, rfl⟩
theorem spec_PackRequest_ok (L : List S29) (hl : (L.length : Int) ≤ 1048576) (k : Nat) (hk : L.length + 2 ≤ k) : (OKL L ∧ spec_PackRequest.f k L = some (req L)) ∨ (¬ OKL L ∧ spec_PackRequest.f k L = some (-1, -1)) := by
  unfold spec_PackRequest.f
  rcases spec_validPacks_ok L hl k (by omega) with ⟨h, e⟩ | ⟨h, e⟩
  · rw [e, Option.bind_some, if_pos rfl, spec_request_ok hl h.mem k (by omega)]
    exact .inl ⟨h, rfl⟩
  · rw [e, Option.bind_some, if_neg (by decide)]
    exact .inr ⟨h, rfl⟩

/-- An item whose side is the other end's. -/
def turn (p : S29) : S29 := ⟨p.f0, p.f1, rd [1, 0, 3, 2] p.f2, p.f3, p.f4, p.f5, p.f6, p.f7, p.f8⟩
theorem turn_side {p : S29} (h : OKP p) : (0 ≤ (turn p).f2 ∧ (turn p).f2 ≤ 3) ∧ (((turn p).f2 = 0 ∨ (turn p).f2 = 1) ↔ (p.f2 = 0 ∨ p.f2 = 1)) := by
  have hs : p.f2 = 0 ∨ p.f2 = 1 ∨ p.f2 = 2 ∨ p.f2 = 3 := by omega
  have e : (turn p).f2 = rd [1, 0, 3, 2] p.f2 := rfl
  rw [e]
  rcases hs with q | q | q | q
  · rw [q, show rd [1, 0, 3, 2] 0 = 1 from rfl]; omega
  · rw [q, show rd [1, 0, 3, 2] 1 = 0 from rfl]; omega
  · rw [q, show rd [1, 0, 3, 2] 2 = 3 from rfl]; omega
  · rw [q, show rd [1, 0, 3, 2] 3 = 2 from rfl]; omega
theorem turn_ok {p : S29} (h : OKP p) : OKP (turn p) := by
  have := (turn_side h).1
  exact ⟨h.1, h.2.1, this, h.2.2.2.1, h.2.2.2.2.1, h.2.2.2.2.2⟩
theorem req_turn {L : List S29} (h : ∀ p ∈ L, OKP p) : req (L.map turn) = req L := by
  induction L with
  | nil => rfl
  | cons p L ih =>
    have h1 := (turn_side (h p List.mem_cons_self)).2
    rw [List.map_cons, req, req, ih (fun q hq => h q (List.mem_cons_of_mem p hq))]
    by_cases hs : p.f2 = 0 ∨ p.f2 = 1
    · rw [if_pos hs, if_pos (h1.2 hs)]
      rfl
    · rw [if_neg hs, if_neg (fun q => hs (h1.1 q))]
      rfl
theorem okl_turn {L : List S29} (h : OKL L) : OKL (L.map turn) := by
  refine OKL.of_mem (by rw [List.length_map]; exact h.1) (fun p hp => ?_)
  obtain ⟨q, hq, rfl⟩ := List.mem_map.1 hp
  exact turn_ok (h.mem q hq)
theorem req_tail {p : S29} {L : List S29} (h : ∀ q ∈ p :: L, OKP q) : (req L).1 ≤ (req (p :: L)).1 ∧ (req L).2 ≤ (req (p :: L)).2 := by
  have h1 := h p List.mem_cons_self
  rw [req]
  split
  · exact ⟨by dsimp only; omega, by dsimp only; omega⟩
  · exact ⟨by dsimp only; omega, by dsimp only; omega⟩
theorem law_loop {L : List S29} (h : OKL L) {a b : Int} (ha : a ≤ (req L).1) (hb : b ≤ (req L).2) (d : Nat) : ∀ k i : Nat, i + d = L.length → d + 20 ≤ k → laws_FnPackRequest.l0 k (req L).1 (req L).2 a b ((L.map turn).take i ++ L.drop i) (i : Int) = some true := by
  have hm : (L.map turn).length = L.length := List.length_map ..
  have h7 := h.1
  induction d with
  | zero =>
    intro k i hi hk
    obtain ⟨k, rfl⟩ : ∃ m, k = m + 1 := ⟨k - 1, by omega⟩
    have e : (L.map turn).take i ++ L.drop i = L.map turn := by
      rw [List.take_of_length_le (by omega), List.drop_eq_nil_of_le (by omega), List.append_nil]
    rw [e, laws_FnPackRequest.l0, if_neg (by omega)]
    rcases impl_PackRequest_ok (L.map turn) (by omega) k (by omega) with ⟨_, e1⟩ | ⟨h', _⟩
    · rw [e1, Option.bind_some, req_turn h.mem, if_pos ha, if_pos hb, if_pos rfl, beq_self_eq_true]
    · exact absurd (okl_turn h) h'
  | succ d ih =>
    intro k i hi hk
    obtain ⟨k, rfl⟩ : ∃ m, k = m + 1 := ⟨k - 1, by omega⟩
    have hp := h.2 i (by omega)
    have hlen : (((L.map turn).take i ++ L.drop i).length : Int) = L.length := by
      rw [List.length_append, List.length_take, List.length_drop]
      omega
    have er : rd_T29 ((L.map turn).take i ++ L.drop i) (i : Int) = rd_T29 L i := by
      rw [rdp_get (by omega), rdp_get (by omega), List.getElem_append_right (by rw [List.length_take]; omega), List.getElem_drop]
      congr 1
      rw [List.length_take]
      omega
    have es : ((L.map turn).take i ++ L.drop i).set (i : Int).toNat (turn (rd_T29 L i)) = (L.map turn).take (i + 1) ++ L.drop (i + 1) := by
      rw [Int.toNat_natCast, List.set_append_right _ _ (by rw [List.length_take]; omega), List.length_take, show i - min i (L.map turn).length = 0 from by omega, List.drop_eq_getElem_cons (by omega), List.set_cons_zero, List.take_succ_eq_append_getElem (by omega), List.getElem_map, rdp_get (by omega), List.append_assoc]
      rfl
    rw [laws_FnPackRequest.l0, if_pos (by omega), Option.bind_some, er, if_pos (by omega), if_pos (by omega), if_pos (by simp; omega), w64 (n := (i : Int) + 1) (by omega) (by omega), show (i : Int) + 1 = ((i + 1 : Nat) : Int) from by omega]
    change laws_FnPackRequest.l0 k _ _ a b (((L.map turn).take i ++ L.drop i).set (i : Int).toNat (turn (rd_T29 L i))) _ = _
    rw [es]
    exact ih k (i + 1) (by omega) (by omega)

theorem newReader_ok (l : List Int) (hl : Bytes l) : ∃ s, spec_newReader.f l = some (s, 0) ∧ Bytes s ∧ s.length ≤ 2000 := by
  unfold spec_newReader.f
  by_cases h : (l.length : Int) > 2000
  · rw [if_pos h, if_pos (by omega)]
    exact ⟨_, rfl, fun x hx => hl x (List.mem_of_mem_take hx), List.length_take_le _ _⟩
  · rw [if_neg h]
    exact ⟨l, rfl, hl, by omega⟩
theorem pick_ok (k : Nat) {s : List Int} {p : Int} (n : Int) (hs : Bytes s) (hl : s.length ≤ 2000) (p0 : 0 ≤ p) (p1 : p ≤ 1000000) :
    ∃ v, spec_reader_pick.f (k + 1) s p n = some (v, p + 1) ∧ 0 ≤ v ∧ (1 ≤ n → v < n) ∧ (n < 1 → v = 0) := by
  unfold spec_reader_pick.f
  rw [w64 (n := p + 1) (by omega) (by omega)]
  by_cases h1 : n < 1
  · rw [if_pos h1, spec_reader_pick.j0, if_pos rfl]
    exact ⟨0, rfl, by omega, by omega, fun _ => rfl⟩
  · rw [if_neg h1, spec_reader_pick.j0]
    by_cases h2 : (s.length : Int) = 0
    · rw [if_pos (by simp only [h2]; rfl)]
      exact ⟨0, rfl, by omega, by omega, fun _ => rfl⟩
    · rw [if_neg (by rw [beq_iff_eq]; exact h2), w64 (n := p + 1 - 1) (by omega) (by omega), show p + 1 - 1 = p from by omega]
      by_cases h3 : p < (s.length : Int)
      · have hr := rd_byte hs p
        rw [if_pos h3, if_pos p0, if_neg (by omega), w64 (n := rd s p) (by omega) (by omega)]
        have ht := tmod_lt hr.1 (show 1 ≤ n by omega)
        exact ⟨_, rfl, ht.1, fun _ => ht.2, fun h => by omega⟩
      · have hlen : 1 ≤ (s.length : Int) := by omega
        have q1 := tmod_lt p0 hlen
        have q2 := tmod_lt (a := p * 7 + 3) (by omega) hlen
        have qd : 0 ≤ Int.tdiv p (s.length : Int) ∧ Int.tdiv p (s.length : Int) ≤ p := by
          rw [td2 p0]
          exact ⟨Int.ediv_nonneg p0 (by omega), Int.ediv_le_self _ p0⟩
        rw [if_neg h3, if_neg h2, if_pos q1.1, if_pos q1.2, w64 (n := p * 7) (by omega) (by omega), w64 (n := p * 7 + 3) (by omega) (by omega), if_pos q2.1, if_pos q2.2, if_neg (by omega)]
        have ra := rd_byte hs (Int.tmod p (s.length : Int))
        have rb := rd_byte hs (Int.tmod (p * 7 + 3) (s.length : Int))
        generalize rd s (Int.tmod p (s.length : Int)) = a at *
        generalize rd s (Int.tmod (p * 7 + 3) (s.length : Int)) = b at *
        generalize Int.tdiv p (s.length : Int) = d at *
        rw [w64 (n := a) (by omega) (by omega), w64 (n := b) (by omega) (by omega), w64 (n := a * 131) (by omega) (by omega), w64 (n := b * 1117) (by omega) (by omega), w64 (n := a * 131 + b * 1117) (by omega) (by omega), w64 (n := p * 29) (by omega) (by omega), w64 (n := a * 131 + b * 1117 + p * 29) (by omega) (by omega), w64 (n := d) (by omega) (by omega), w64 (n := d * 53) (by omega) (by omega), w64 (n := a * 131 + b * 1117 + p * 29 + d * 53) (by omega) (by omega)]
        have hx : 0 ≤ a * 131 + b * 1117 + p * 29 + d * 53 ∧ a * 131 + b * 1117 + p * 29 + d * 53 ≤ 1000000000 := by omega
        generalize a * 131 + b * 1117 + p * 29 + d * 53 = x at *
        rw [td2 hx.1, w64 (n := x / 64) (by omega) (by omega)]
        have ht := tmod_lt (xor_range (a := x) (b := x / 64) (by omega) (by omega) (by omega) (by omega)) (show 1 ≤ n by omega)
        exact ⟨_, rfl, ht.1, fun _ => ht.2, fun h => by omega⟩

theorem one_ok (k : Nat) {s : List Int} {p : Int} (L : List Int) (hL : 1 ≤ (L.length : Int)) (hs : Bytes s) (hl : s.length ≤ 2000) (p0 : 0 ≤ p) (p1 : p ≤ 1000000) :
    ∃ v, spec_reader_one.f (k + 1) s p L = some (v, p + 1) ∧ v ∈ L := by
  obtain ⟨v, e, v0, v1, _⟩ := pick_ok k (L.length : Int) hs hl p0 p1
  unfold spec_reader_one.f
  rw [e, Option.bind_some]
  simp only
  rw [if_pos v0, if_pos (v1 hL)]
  exact ⟨_, rfl, rd_mem v0 (v1 hL)⟩

theorem pick_bind {β : Type} {P : β → Prop} {k : Nat} {s : List Int} {p n : Int} {f : Int × Int → Option β} (hs : Bytes s) (hl : s.length ≤ 2000) (p0 : 0 ≤ p) (p1 : p ≤ 1000000)
    (h : ∀ v, 0 ≤ v → (1 ≤ n → v < n) → ∃ r, f (v, p + 1) = some r ∧ P r) : ∃ r, (spec_reader_pick.f (k + 1) s p n).bind f = some r ∧ P r := by
  obtain ⟨v, e, v0, v1, _⟩ := pick_ok k n hs hl p0 p1
  rw [e, Option.bind_some]
  exact h v v0 v1

theorem one_bind {β : Type} {P : β → Prop} {k : Nat} {s : List Int} {p : Int} {L : List Int} {f : Int × Int → Option β} (hs : Bytes s) (hl : s.length ≤ 2000) (p0 : 0 ≤ p) (p1 : p ≤ 1000000) (hL : 1 ≤ (L.length : Int))
    (h : ∀ v, v ∈ L → ∃ r, f (v, p + 1) = some r ∧ P r) : ∃ r, (spec_reader_one.f (k + 1) s p L).bind f = some r ∧ P r := by
  obtain ⟨v, e, hv⟩ := one_ok k L hL hs hl p0 p1
  rw [e, Option.bind_some]
  exact h v hv

theorem goodPack_ok (k : Nat) {s : List Int} {p : Int} (hs : Bytes s) (hl : s.length ≤ 2000) (p0 : 0 ≤ p) (p1 : p ≤ 900000) : ∃ r, spec_goodPack.f (k + 1) s p = some r ∧ (0 ≤ r.2.2.2.2.2.2.2.2.2 ∧ r.2.2.2.2.2.2.2.2.2 ≤ p + 50) := by
  unfold spec_goodPack.f
  repeat' first
    | (refine pick_bind hs hl (by omega) (by omega) (fun _ _ _ => ?_); try dsimp only)
    | (refine one_bind hs hl (by omega) (by omega) (by simp) (fun _ _ => ?_); try dsimp only)
    | split
  all_goals exact ⟨_, rfl, by dsimp only; omega, by dsimp only; omega⟩

theorem somePack_ok (k : Nat) {s : List Int} {p : Int} (hs : Bytes s) (hl : s.length ≤ 2000) (p0 : 0 ≤ p) (p1 : p ≤ 900000) : ∃ r, spec_somePack.f (k + 1) s p = some r ∧ (0 ≤ r.2.2.2.2.2.2.2.2.2 ∧ r.2.2.2.2.2.2.2.2.2 ≤ p + 100) := by
  unfold spec_somePack.f
  obtain ⟨r, e, _, _⟩ := goodPack_ok k hs hl p0 p1
  rw [e, Option.bind_some]
  repeat' first
    | (refine pick_bind hs hl (by omega) (by omega) (fun _ _ _ => ?_); try dsimp only)
    | (refine one_bind hs hl (by omega) (by omega) (by simp) (fun _ _ => ?_); try dsimp only)
    | split
  all_goals exact ⟨_, rfl, by dsimp only; omega, by dsimp only; omega⟩

theorem drawP_loop {s : List Int} (hs : Bytes s) (hl : s.length ≤ 2000) (d : Nat) : ∀ (k : Nat) (O : List S29) (n p : Int), n = d → O.length + d ≤ 7 → d + 4 ≤ k → 0 ≤ p → p ≤ 100 + 50 * O.length → ∃ r, spec_somePacks.l0 k O n s p = some r ∧ r.1.length ≤ 8 := by
  induction d with
  | zero =>
    intro k O n p hn hO hk p0 p1
    obtain ⟨k, rfl⟩ : ∃ m, k = m + 3 := ⟨k - 3, by omega⟩
    rw [spec_somePacks.l0, if_neg (by omega)]
    refine pick_bind hs hl (by omega) (by omega) (fun v _ _ => ?_)
    by_cases h : v = 0
    · rw [if_pos h]
      obtain ⟨r, e, _, _⟩ := somePack_ok (k + 1) (p := p + 1) hs hl (by omega) (by omega)
      rw [e, Option.bind_some, if_pos (by omega)]
      exact ⟨_, rfl, by dsimp only; rw [List.length_append]; simp; omega⟩
    · rw [if_neg h]
      exact ⟨_, rfl, by dsimp only; omega⟩
  | succ d ih =>
    intro k O n p hn hO hk p0 p1
    obtain ⟨k, rfl⟩ : ∃ m, k = m + 2 := ⟨k - 2, by omega⟩
    rw [spec_somePacks.l0, if_pos (by omega)]
    obtain ⟨r, e, q0, q1⟩ := goodPack_ok k (p := p) hs hl (by omega) (by omega)
    rw [e, Option.bind_some, if_pos (by omega), w64 (n := n - 1) (by omega) (by omega)]
    exact ih (k + 1) _ (n - 1) _ (by omega) (by rw [List.length_append]; simp; omega) (by omega) q0 (by rw [List.length_append]; simp; omega)
theorem draw_ok (k : Nat) {l : List Int} (hb : Bytes l) : ∃ r, spec_DrawPackRequest.f (k + 20) l = some r ∧ r.length ≤ 8 := by
  unfold spec_DrawPackRequest.f spec_somePacks.f
  obtain ⟨s, e, hs, hl⟩ := newReader_ok l hb
  rw [e, Option.bind_some]
  obtain ⟨v, e, hv⟩ := one_ok (k + 19) (p := 0) [3, 4, 2, 5, 1, 0, 7] (by simp) hs hl (by omega) (by omega)
  dsimp only
  rw [e, Option.bind_some]
  have hv' : 0 ≤ v ∧ v ≤ 7 := by
    simp only [List.mem_cons, List.not_mem_nil, or_false] at hv
    omega
  obtain ⟨r, e, hr⟩ := drawP_loop hs hl v.toNat (k + 20) [] v (0 + 1) (by omega) (by simp; omega) (by omega) (by omega) (by simp)
  dsimp only
  rw [e, Option.bind_some]
  exact ⟨_, rfl, hr⟩

theorem FnPackRequest : laws_FnPackRequest.Pure := by
  intro l0 _ _ hw
  refine ⟨60, ?_⟩
  unfold laws_FnPackRequest.f
  by_cases hb : (l0.length : Int) > 1048576
  · rw [if_pos hb]
  obtain ⟨L, e, hL⟩ := draw_ok 40 (bytes_of hw)
  rw [if_neg hb, e, Option.bind_some]
  clear e
  rcases impl_PackRequest_ok L (by omega) 60 (by omega) with ⟨h, e1⟩ | ⟨h, e1⟩
  · rcases spec_PackRequest_ok L (by omega) 60 (by omega) with ⟨_, e2⟩ | ⟨h', _⟩
    · have hr := req_range h.mem
      rw [e1, e2, Option.bind_some, Option.bind_some, if_pos rfl, if_pos rfl, if_neg (by omega)]
      cases L with
      | nil => rfl
      | cons p L =>
        have hl : ((p :: L).length : Int) = L.length + 1 := by simp
        have hz : (((p :: L).length : Int) == 0) = false := by
          rw [hl, beq_eq_false_iff_ne]
          omega
        have ht : OKL L := OKL.of_mem (by have := h.1; omega) (fun q hq => h.mem q (List.mem_cons_of_mem p hq))
        have hq := req_tail h.mem
        rw [hz, laws_FnPackRequest.j0, if_neg (by decide), if_pos (by omega)]
        change ((impl_PackRequest.f 59 L).bind _) = _
        rcases impl_PackRequest_ok L (by omega) 59 (by omega) with ⟨_, e3⟩ | ⟨h', _⟩
        · rw [e3, Option.bind_some, Option.bind_some, if_pos (by simp; omega), List.nil_append]
          have := law_loop h hq.1 hq.2 (p :: L).length 59 0 (by omega) (by omega)
          rwa [List.take_zero, List.nil_append, List.drop_zero] at this
        · exact absurd ht h'
    · exact absurd h h'
  · rcases spec_PackRequest_ok L (by omega) 60 (by omega) with ⟨h', _⟩ | ⟨_, e2⟩
    · exact absurd h' h
    · rw [e1, e2, Option.bind_some, Option.bind_some, if_pos rfl, if_pos rfl, if_pos (by decide)]
      rfl

end Go.Proofs.Ytffihkpnampboaa.Pure
