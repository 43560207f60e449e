/- The plain side of FnExactPackRequest: the printed function answers true at every input; no condition is added. -/
import Derived.Test.YtffihkpnampboaaQFnExactPackRequestx0
import Derived.Test.YtffihkpnampboaaQFnExactPackRequestx1
import Derived.Test.YtffihkpnampboaaQFnExactPackRequestx2
import Derived.Test.YtffihkpnampboaaQFnExactPackRequestx3
import Derived.Test.YtffihkpnampboaaBase
namespace Go.Proofs.Ytffihkpnampboaa.Pure
open Go.RowKit Go.Proofs.Ytffihkpnampboaa.PFnExactPackRequest Go.Proofs.YtffihkpnampboaaW.PrintWords Go.Proofs.YtffihkpnampboaaW.PrintLast Go.Proofs.YtffihkpnampboaaW.PrintMore Go.Proofs.Ytffihkpnampboaa.Base
set_option linter.unusedVariables false
set_option linter.unusedSimpArgs false

theorem within_eq (a b c : Int) : impl_within.f a b c = some (decide (b ≤ a ∧ a ≤ c)) := by
  unfold impl_within.f
  by_cases h : b ≤ a
  · rw [if_pos h]; simp [h]
  · rw [if_neg h]; simp [h]

theorem inrange_eq (a b c : Int) : spec_inRange.f a b c = some (decide (b ≤ a ∧ a ≤ c)) := by
  unfold spec_inRange.f
  by_cases h : b ≤ a
  · rw [if_pos h]; simp [h]
  · rw [if_neg h]; simp [h]

theorem impl_ValidPack_eq (w h s : Int) (fx fy ex : Bool) (a px py : Int) : impl_ValidPack.f w h s fx fy ex a px py = some (decide (VK w h s a px py)) := by
  unfold impl_ValidPack.f
  simp only [within_eq, Option.bind_some, decide_eq_true_eq]
  repeat' split
  all_goals
    refine congrArg some ?_
    first
    | (rw [decide_eq_decide]; omega)
    | (symm; rw [decide_eq_false_iff_not]; omega)

theorem spec_validPack_eq (w h s : Int) (fx fy ex : Bool) (a px py : Int) : spec_validPack.f w h s fx fy ex a px py = some (decide (VK w h s a px py)) := by
  unfold spec_validPack.f spec_validSide.f spec_validAnchor.f
  simp only [inrange_eq, Option.bind_some, decide_eq_true_eq]
  repeat' split
  all_goals
    refine congrArg some ?_
    first
    | (rw [decide_eq_decide]; omega)
    | (symm; rw [decide_eq_false_iff_not]; omega)

/-- An item that the program calls valid. -/
abbrev OKP (p : S29) : Prop := VK p.f0 p.f1 p.f2 p.f6 p.f7 p.f8
/-- Items that the program calls valid. -/
def OKL (L : List S29) : Prop := (L.length : Int) ≤ 7 ∧ ∀ j : Nat, j < L.length → OKP (rd_T29 L j)
theorem rdp_get {L : List S29} {i : Nat} (h : i < L.length) : rd_T29 L i = L[i] := by
  unfold rd_T29
  rw [List.getD_eq_getElem?_getD, Int.toNat_natCast, List.getElem?_eq_getElem h]
  rfl
theorem OKL.mem {L : List S29} (h : OKL L) : ∀ p ∈ L, OKP p := by
  intro p hp
  obtain ⟨i, hi, rfl⟩ := List.getElem_of_mem hp
  have := h.2 i hi
  rwa [rdp_get hi] at this
theorem OKL.of_mem {L : List S29} (h7 : (L.length : Int) ≤ 7) (h : ∀ p ∈ L, OKP p) : OKL L := by
  refine ⟨h7, fun j hj => ?_⟩
  rw [rdp_get hj]
  exact h _ (List.getElem_mem hj)
theorem impl_packs_loop {L : List S29} (hl : (L.length : Int) ≤ 1048576) (d : Nat) : ∀ (k i : Nat), i + d = L.length → d + 1 ≤ k → ∃ r, impl_Pack_63.l0 k L (L.length : Int) (i : Int) = some r ∧ ((r < 0 ∧ ∀ j : Nat, i ≤ j → j < L.length → OKP (rd_T29 L j)) ∨ (0 ≤ r ∧ ∃ j : Nat, i ≤ j ∧ j < L.length ∧ ¬ OKP (rd_T29 L j))) := by
  induction d with
  | zero =>
    intro k i hi hk
    obtain ⟨k, rfl⟩ : ∃ m, k = m + 1 := ⟨k - 1, by omega⟩
    rw [impl_Pack_63.l0, if_neg (by omega)]
    exact ⟨_, rfl, .inl ⟨by omega, fun j j0 j1 => by omega⟩⟩
  | succ d ih =>
    intro k i hi hk
    obtain ⟨k, rfl⟩ : ∃ m, k = m + 1 := ⟨k - 1, by omega⟩
    rw [impl_Pack_63.l0, if_pos (by omega), if_pos (by omega), if_pos (by omega), impl_packsOk_lit.f, impl_ValidPack_eq, Option.bind_some, Option.bind_some]
    by_cases h : OKP (rd_T29 L i)
    · obtain ⟨r, e, hr⟩ := ih k (i + 1) (by omega) (by omega)
      rw [decide_eq_true h, if_neg (by decide), w64 (n := (i : Int) + 1) (by omega) (by omega), show (i : Int) + 1 = ((i + 1 : Nat) : Int) from by omega]
      refine ⟨r, e, ?_⟩
      rcases hr with ⟨hr, q⟩ | ⟨hr, j, j0, j1, q⟩
      · refine .inl ⟨hr, fun j j0 j1 => ?_⟩
        by_cases e' : j = i
        · rw [e']; exact h
        · exact q j (by omega) j1
      · exact .inr ⟨hr, j, by omega, j1, q⟩
    · rw [decide_eq_false h, if_pos (by decide)]
      exact ⟨_, rfl, .inr ⟨by omega, i, by omega, by omega, h⟩⟩
theorem impl_packsOk_ok (L : List S29) (hl : (L.length : Int) ≤ 1048576) (k : Nat) (hk : L.length + 1 ≤ k) : (OKL L ∧ impl_packsOk.f k L = some true) ∨ (¬ OKL L ∧ impl_packsOk.f k L = some false) := by
  obtain ⟨r, e, hr⟩ := impl_packs_loop hl L.length k 0 (by omega) hk
  rw [Int.natCast_zero] at e
  unfold impl_packsOk.f impl_Pack_54.f impl_Pack_63.f
  rw [e, Option.bind_some, Option.bind_some]
  by_cases h7 : (L.length : Int) ≤ 7
  · rw [if_pos h7]
    rcases hr with ⟨hr, q⟩ | ⟨hr, j, j0, j1, q⟩
    · rw [decide_eq_false (show ¬ r ≥ 0 by omega)]
      exact .inl ⟨⟨h7, fun j j1 => q j (by omega) j1⟩, rfl⟩
    · rw [decide_eq_true (show r ≥ 0 by omega)]
      exact .inr ⟨fun h => q (h.2 j j1), rfl⟩
  · rw [if_neg h7]
    exact .inr ⟨fun h => h7 h.1, rfl⟩
theorem spec_packs_loop {L : List S29} (hl : (L.length : Int) ≤ 1048576) (d : Nat) : ∀ (k i : Nat), i + d = L.length → d + 1 ≤ k → (∀ j : Nat, j < i → OKP (rd_T29 L j)) → (OKL L ∧ spec_validPacks.l0 k L (i : Int) = some true) ∨ (¬ OKL L ∧ spec_validPacks.l0 k L (i : Int) = some false) := by
  induction d with
  | zero =>
    intro k i hi hk hq
    obtain ⟨k, rfl⟩ : ∃ m, k = m + 1 := ⟨k - 1, by omega⟩
    rw [spec_validPacks.l0, if_neg (by omega)]
    by_cases h7 : (L.length : Int) ≤ 7
    · rw [decide_eq_true h7]
      exact .inl ⟨⟨h7, fun j j1 => hq j (by omega)⟩, rfl⟩
    · rw [decide_eq_false h7]
      exact .inr ⟨fun h => h7 h.1, rfl⟩
  | succ d ih =>
    intro k i hi hk hq
    obtain ⟨k, rfl⟩ : ∃ m, k = m + 1 := ⟨k - 1, by omega⟩
    rw [spec_validPacks.l0, if_pos (by omega), if_pos (by omega), spec_validPack_eq, Option.bind_some]
    by_cases h : OKP (rd_T29 L i)
    · rw [decide_eq_true h, if_pos rfl, w64 (n := (i : Int) + 1) (by omega) (by omega), show (i : Int) + 1 = ((i + 1 : Nat) : Int) from by omega]
      refine ih k (i + 1) (by omega) (by omega) (fun j j1 => ?_)
      by_cases e' : j = i
      · rw [e']; exact h
      · exact hq j (by omega)
    · rw [decide_eq_false h, if_neg (by decide)]
      exact .inr ⟨fun q => h (q.2 i (by omega)), rfl⟩
theorem spec_validPacks_ok (L : List S29) (hl : (L.length : Int) ≤ 1048576) (k : Nat) (hk : L.length + 1 ≤ k) : (OKL L ∧ spec_validPacks.f k L = some true) ∨ (¬ OKL L ∧ spec_validPacks.f k L = some false) := by
  unfold spec_validPacks.f
  have := spec_packs_loop hl L.length k 0 (by omega) hk (fun j j1 => by omega)
  rwa [Int.natCast_zero] at this
theorem down_eq (a b c : Int) (d e f : Bool) (g h i : Int) : impl_Pack_down.f a b c d e f g h i = some (decide (c = 0 ∨ c = 1)) := by
  unfold impl_Pack_down.f
  by_cases h0 : c = 0
  · rw [if_pos h0, decide_eq_true (.inl h0)]
  · rw [if_neg h0]
    refine congrArg some ?_
    rw [Bool.eq_iff_iff]
    simp [h0]
theorem upright_eq (c : Int) : spec_upright.f c = some (decide (c = 0 ∨ c = 1)) := by
  unfold spec_upright.f
  by_cases h0 : c = 0
  · rw [if_pos h0, decide_eq_true (.inl h0)]
  · rw [if_neg h0]
    refine congrArg some ?_
    rw [Bool.eq_iff_iff]
    simp [h0]

/-- The size that items need together. -/
def req : List S29 → Int × Int
  | [] => (0, 0)
  | p :: L => if p.f2 = 0 ∨ p.f2 = 1 then (max (p.f0 + 2 * p.f7) (req L).1, p.f1 + 2 * p.f8 + (req L).2) else (p.f0 + 2 * p.f7 + (req L).1, max (p.f1 + 2 * p.f8) (req L).2)
theorem req_range {L : List S29} (h : ∀ p ∈ L, OKP p) : 0 ≤ (req L).1 ∧ (req L).1 ≤ 50 * L.length ∧ 0 ≤ (req L).2 ∧ (req L).2 ≤ 50 * L.length := by
  induction L with
  | nil => exact ⟨by decide, by decide, by decide, by decide⟩
  | cons p L ih =>
    have h1 := h p List.mem_cons_self
    have h2 := ih (fun q hq => h q (List.mem_cons_of_mem p hq))
    have e : ((p :: L).length : Int) = L.length + 1 := by simp
    rw [req, e]
    split
    · exact ⟨by dsimp only; omega, by dsimp only; omega, by dsimp only; omega, by dsimp only; omega⟩
    · exact ⟨by dsimp only; omega, by dsimp only; omega, by dsimp only; omega, by dsimp only; omega⟩
theorem impl_packRequest_ok (L : List S29) : ∀ k : Nat, L.length + 1 ≤ k → (L.length : Int) ≤ 1048576 → (∀ p ∈ L, OKP p) → impl_packRequest.f k L = some (req L) := by
  induction L with
  | nil =>
    intro k hk _ _
    obtain ⟨k, rfl⟩ : ∃ m, k = m + 1 := ⟨k - 1, by omega⟩
    rw [impl_packRequest.f, if_pos (by simp)]
    rfl
  | cons p L ih =>
    intro k hk hl h
    have e : ((p :: L).length : Int) = L.length + 1 := by simp
    have hk' : L.length + 2 ≤ k := by simpa using hk
    obtain ⟨k, rfl⟩ : ∃ m, k = m + 1 := ⟨k - 1, by omega⟩
    have h1 := h p List.mem_cons_self
    have h2 := fun q hq => h q (List.mem_cons_of_mem p hq)
    have hr := req_range h2
    rw [impl_packRequest.f, if_neg (by omega), if_pos (by omega), impl_Pack_needs.f, Option.bind_some, if_pos (by omega)]
    change ((impl_packRequest.f k L).bind fun bt => (impl_Pack_down.f p.f0 p.f1 p.f2 p.f3 p.f4 p.f5 p.f6 p.f7 p.f8).bind fun t => if t = true then some (mx (wrap64 (p.f0 + wrap64 (2 * p.f7))) bt.1, wrap64 (wrap64 (p.f1 + wrap64 (2 * p.f8)) + bt.2)) else some (wrap64 (wrap64 (p.f0 + wrap64 (2 * p.f7)) + bt.1), mx (wrap64 (p.f1 + wrap64 (2 * p.f8))) bt.2)) = some (req (p :: L))
    rw [ih k (by omega) (by omega) h2, Option.bind_some, down_eq, Option.bind_some, w64 (n := 2 * p.f7) (by omega) (by omega), w64 (n := 2 * p.f8) (by omega) (by omega), w64 (n := p.f0 + 2 * p.f7) (by omega) (by omega), w64 (n := p.f1 + 2 * p.f8) (by omega) (by omega), w64 (n := p.f1 + 2 * p.f8 + (req L).2) (by omega) (by omega), w64 (n := p.f0 + 2 * p.f7 + (req L).1) (by omega) (by omega), mx_eq, mx_eq, req]
    by_cases hd : p.f2 = 0 ∨ p.f2 = 1
    · rw [decide_eq_true hd, if_pos rfl, if_pos hd]
    · rw [decide_eq_false hd, if_neg (by decide), if_neg hd]
theorem spec_request_loop {L : List S29} (hl : (L.length : Int) ≤ 1048576) (h : ∀ p ∈ L, OKP p) (d : Nat) : ∀ k : Nat, d ≤ L.length → d + 1 ≤ k → spec_request.l0 k L (req (L.drop d)).1 (req (L.drop d)).2 ((d : Int) - 1) = some (req L) := by
  induction d with
  | zero =>
    intro k hd hk
    obtain ⟨k, rfl⟩ : ∃ m, k = m + 1 := ⟨k - 1, by omega⟩
    rw [spec_request.l0, if_neg (by omega), List.drop_zero]
  | succ d ih =>
    intro k hd hk
    obtain ⟨k, rfl⟩ : ∃ m, k = m + 1 := ⟨k - 1, by omega⟩
    have e : L.drop d = rd_T29 L d :: L.drop (d + 1) := by rw [List.drop_eq_getElem_cons (by omega), rdp_get (by omega)]
    have h2 : ∀ p ∈ L.drop (d + 1), OKP p := fun p hp => h p (List.mem_of_mem_drop hp)
    have h1 : OKP (rd_T29 L d) := by rw [rdp_get (by omega)]; exact h _ (List.getElem_mem _)
    have hr := req_range h2
    have hld : ((L.drop (d + 1)).length : Int) ≤ 1048576 := by rw [List.length_drop]; omega
    have ih := ih k (by omega) (by omega)
    rw [e, req] at ih
    rw [show ((d + 1 : Nat) : Int) - 1 = (d : Int) from by omega, spec_request.l0, if_pos (by omega), if_pos (by omega), if_pos (by omega), spec_outer.f, Option.bind_some, upright_eq, Option.bind_some]
    dsimp only
    generalize rd_T29 L d = p at *
    rw [w64 (n := (d : Int) - 1) (by omega) (by omega), w64 (n := 2 * p.f7) (by omega) (by omega), w64 (n := 2 * p.f8) (by omega) (by omega), w64 (n := p.f0 + 2 * p.f7) (by omega) (by omega), w64 (n := p.f1 + 2 * p.f8) (by omega) (by omega), Int.add_comm (req (L.drop (d + 1))).2, Int.add_comm (req (L.drop (d + 1))).1, w64 (n := p.f1 + 2 * p.f8 + (req (L.drop (d + 1))).2) (by omega) (by omega), w64 (n := p.f0 + 2 * p.f7 + (req (L.drop (d + 1))).1) (by omega) (by omega), mx_comm _ (p.f0 + 2 * p.f7), mx_comm _ (p.f1 + 2 * p.f8), mx_eq, mx_eq]
    by_cases hu : p.f2 = 0 ∨ p.f2 = 1
    · rw [if_pos hu] at ih
      rw [decide_eq_true hu, if_pos rfl]
      exact ih
    · rw [if_neg hu] at ih
      rw [decide_eq_false hu, if_neg (by decide)]
      exact ih
theorem spec_request_ok {L : List S29} (hl : (L.length : Int) ≤ 1048576) (h : ∀ p ∈ L, OKP p) (k : Nat) (hk : L.length + 1 ≤ k) : spec_request.f k L = some (req L) := by
  unfold spec_request.f
  rw [w64 (n := (L.length : Int) - 1) (by omega) (by omega)]
  have e := spec_request_loop hl h L.length k (Nat.le_refl _) hk
  rw [List.drop_eq_nil_of_le (Nat.le_refl _)] at e
  exact e
theorem impl_PackRequest_ok (L : List S29) (hl : (L.length : Int) ≤ 1048576) (k : Nat) (hk : L.length + 2 ≤ k) : (OKL L ∧ impl_PackRequest.f k L = some (req L)) ∨ (¬ OKL L ∧ impl_PackRequest.f k L = some (-1, -1)) := by
  unfold impl_PackRequest.f
  rcases impl_packsOk_ok L hl k (by omega) with ⟨h, e⟩ | ⟨h, e⟩
  · rw [e, Option.bind_some, if_pos rfl, impl_packRequest_ok L k (by omega) hl h.mem]
    exact .inl ⟨h, rfl⟩
  · rw [e, Option.bind_some, if_neg (by decide)]
    exact .inr ⟨h, rfl⟩
theorem spec_PackRequest_ok (L : List S29) (hl : (L.length : Int) ≤ 1048576) (k : Nat) (hk : L.length + 2 ≤ k) : (OKL L ∧ spec_PackRequest.f k L = some (req L)) ∨ (¬ OKL L ∧ spec_PackRequest.f k L = some (-1, -1)) := by
  unfold spec_PackRequest.f
  rcases spec_validPacks_ok L hl k (by omega) with ⟨h, e⟩ | ⟨h, e⟩
  · rw [e, Option.bind_some, if_pos rfl, spec_request_ok hl h.mem k (by omega)]
    exact .inl ⟨h, rfl⟩
  · rw [e, Option.bind_some, if_neg (by decide)]
    exact .inr ⟨h, rfl⟩

/-- An item as the program has it. -/
def conv (p : S56) : S29 := ⟨p.f0, p.f1, p.f2, p.f3, p.f4, p.f5, p.f6, p.f7, p.f8⟩
theorem rdq_get {L : List S56} {i : Nat} (h : i < L.length) : rd_T56 L i = L[i] := by
  unfold rd_T56
  rw [List.getD_eq_getElem?_getD, Int.toNat_natCast, List.getElem?_eq_getElem h]
  rfl
theorem toPackS_loop {l : List S56} (hl : (l.length : Int) ≤ 1048576) (d : Nat) : ∀ (k i : Nat), i + d = l.length → d + 1 ≤ k → laws_toPackS.l0 k l ((l.map conv).take i ++ List.replicate d z29) (i : Int) = some (l.map conv) := by
  have hm : (l.map conv).length = l.length := List.length_map ..
  induction d with
  | zero =>
    intro k i hi hk
    obtain ⟨k, rfl⟩ : ∃ m, k = m + 1 := ⟨k - 1, by omega⟩
    rw [laws_toPackS.l0, if_neg (by omega), List.take_of_length_le (by omega)]
    simp
  | succ d ih =>
    intro k i hi hk
    obtain ⟨k, rfl⟩ : ∃ m, k = m + 1 := ⟨k - 1, by omega⟩
    have e : ((l.map conv).take i ++ List.replicate (d + 1) z29).set (i : Int).toNat (conv (rd_T56 l i)) = (l.map conv).take (i + 1) ++ List.replicate d z29 := by
      rw [Int.toNat_natCast, List.replicate_succ, List.set_append_right _ _ (by rw [List.length_take]; omega), List.length_take, show i - min i (l.map conv).length = 0 from by omega, List.set_cons_zero, List.take_succ_eq_append_getElem (by omega), rdq_get (by omega), List.append_assoc, List.getElem_map]
      rfl
    have hlen : (((l.map conv).take i ++ List.replicate (d + 1) z29).length : Int) = l.length := by
      rw [List.length_append, List.length_take, List.length_replicate]
      omega
    rw [laws_toPackS.l0, if_pos (by omega), if_pos (by omega), laws_toPack.f, Option.bind_some, if_pos (by rw [hlen]; omega), w64 (n := (i : Int) + 1) (by omega) (by omega), show (i : Int) + 1 = ((i + 1 : Nat) : Int) from by omega]
    change laws_toPackS.l0 k l (((l.map conv).take i ++ List.replicate (d + 1) z29).set (i : Int).toNat (conv (rd_T56 l i))) _ = _
    rw [e]
    exact ih k (i + 1) (by omega) (by omega)
theorem toPackS_ok {l : List S56} (hl : (l.length : Int) ≤ 1048576) (k : Nat) (hk : l.length + 1 ≤ k) : laws_toPackS.f k l = some (l.map conv) := by
  unfold laws_toPackS.f
  rw [if_pos (by omega), if_pos (by omega)]
  have h := toPackS_loop hl l.length k 0 (by omega) hk
  simpa using h
theorem eqPack_ok (a b c : Int) (d e f : Bool) (g h i : Int) : laws_eqPack.f a b c d e f g h i a b c d e f g h i = some true := by
  unfold laws_eqPack.f
  rw [if_pos rfl, if_pos rfl, if_pos rfl, if_neg (by cases d <;> decide), if_neg (by cases e <;> decide), if_neg (by cases f <;> decide), if_pos rfl, if_pos rfl, if_pos rfl]
theorem eqPackS_loop {l : List S29} (hl : (l.length : Int) ≤ 1048576) (d : Nat) : ∀ (k : Nat) (i : Int), i + d = (l.length : Int) → 0 ≤ i → d + 1 ≤ k → laws_eqPackS.l0 k l l i = some true := by
  induction d with
  | zero =>
    intro k i hi h0 hk
    obtain ⟨k, rfl⟩ : ∃ m, k = m + 1 := ⟨k - 1, by omega⟩
    rw [laws_eqPackS.l0, if_neg (by omega)]
  | succ d ih =>
    intro k i hi h0 hk
    obtain ⟨k, rfl⟩ : ∃ m, k = m + 1 := ⟨k - 1, by omega⟩
    rw [laws_eqPackS.l0, if_pos (by omega), if_pos h0, if_pos (by omega), eqPack_ok, Option.bind_some, if_pos rfl, w64 (n := i + 1) (by omega) (by omega)]
    exact ih k (i + 1) (by omega) (by omega) (by omega)
theorem eqPackS_ok {l : List S29} (hl : (l.length : Int) ≤ 1048576) (k : Nat) (hk : l.length + 1 ≤ k) : laws_eqPackS.f k l l = some true := by
  unfold laws_eqPackS.f
  rw [if_pos rfl]
  exact eqPackS_loop hl l.length k 0 (by omega) (by omega) hk
theorem szPackS_ok {L : List S56} (hL : L.length ≤ maxLen) : ∃ v, laws_szPackS.f L 1048576 = some v ∧ (v < 0 ∨ (L.length : Int) ≤ 1048576) := by
  have e : maxLen = 9223372036854775807 := by decide
  rw [e] at hL
  unfold laws_szPackS.f
  rw [w64 (n := 1048576 - (L.length : Int)) (by omega) (by omega)]
  by_cases h1 : 1048576 - (L.length : Int) < 0
  · rw [if_pos h1]
    exact ⟨-1, rfl, .inl (by omega)⟩
  · rw [if_neg h1]
    exact ⟨_, rfl, .inr (by omega)⟩

theorem FnExactPackRequest (l0 : List S56) (hl : l0.length ≤ maxLen) : ∃ k, laws_FnExactPackRequest.f k l0 = some true := by
  refine ⟨l0.length + 20, ?_⟩
  unfold laws_FnExactPackRequest.f
  obtain ⟨v, e, hv⟩ := szPackS_ok hl
  rw [e, Option.bind_some]
  by_cases hn : v < 0
  · rw [if_pos hn]
  · have hb : (l0.length : Int) ≤ 1048576 := by omega
    have hm : (l0.map conv).length = l0.length := List.length_map ..
    rw [if_neg hn, toPackS_ok hb _ (by omega), Option.bind_some]
    have hz : ∀ z : Int, (z != z) = false := fun z => by simp
    have e3 : laws_FnExactPackRequest.j0 (l0.length + 20) l0 (l0.map conv) false = some true := by
      rw [laws_FnExactPackRequest.j0, if_neg (by decide), toPackS_ok hb _ (by omega), Option.bind_some, eqPackS_ok (by omega) _ (by omega), Option.bind_some, if_pos rfl]
    rcases impl_PackRequest_ok (l0.map conv) (by omega) (l0.length + 20) (by omega) with ⟨h, e1⟩ | ⟨h, e1⟩
    · rcases spec_PackRequest_ok (l0.map conv) (by omega) (l0.length + 20) (by omega) with ⟨_, e2⟩ | ⟨h', _⟩
      · rw [e2, Option.bind_some, Option.bind_some, e1, Option.bind_some, if_pos rfl, hz, e3]
      · exact absurd h h'
    · rcases spec_PackRequest_ok (l0.map conv) (by omega) (l0.length + 20) (by omega) with ⟨h', _⟩ | ⟨_, e2⟩
      · exact absurd h' h
      · rw [e2, Option.bind_some, Option.bind_some, e1, Option.bind_some, if_pos rfl, hz, e3]

end Go.Proofs.Ytffihkpnampboaa.Pure
