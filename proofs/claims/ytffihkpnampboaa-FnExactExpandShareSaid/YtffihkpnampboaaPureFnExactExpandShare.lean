/- The plain side of FnExactExpandShare: the printed function answers true at every input; no condition is added. -/
import Derived.Test.YtffihkpnampboaaQFnExactExpandSharex0
import Derived.Test.YtffihkpnampboaaQFnExactExpandSharex1
import Derived.Test.YtffihkpnampboaaQFnExactExpandSharex2
import Derived.Test.YtffihkpnampboaaQFnExactExpandSharex3
import Derived.Test.YtffihkpnampboaaQFnExactExpandSharex4
import Derived.Test.YtffihkpnampboaaBase
namespace Go.Proofs.Ytffihkpnampboaa.Pure
open Go.RowKit Go.Proofs.Ytffihkpnampboaa.PFnExactExpandShare Go.Proofs.YtffihkpnampboaaW.PrintWords Go.Proofs.YtffihkpnampboaaW.PrintLast Go.Proofs.YtffihkpnampboaaW.PrintMore Go.Proofs.Ytffihkpnampboaa.Base
set_option linter.unusedVariables false
set_option linter.unusedSimpArgs false

theorem within_eq (a b c : Int) : impl_within.f a b c = some (decide (b ≤ a ∧ a ≤ c)) := by
  unfold impl_within.f
  by_cases h : b ≤ a
  · rw [if_pos h]; simp [h]
  · rw [if_neg h]; simp [h]

theorem inrange_eq (a b c : Int) : spec_inRange.f a b c = some (decide (b ≤ a ∧ a ≤ c)) := by
  unfold spec_inRange.f
  by_cases h : b ≤ a
  · rw [if_pos h]; simp [h]
  · rw [if_neg h]; simp [h]

theorem impl_ValidPack_eq (w h s : Int) (fx fy ex : Bool) (a px py : Int) : impl_ValidPack.f w h s fx fy ex a px py = some (decide (VK w h s a px py)) := by
  unfold impl_ValidPack.f
  simp only [within_eq, Option.bind_some, decide_eq_true_eq]
  repeat' split
  all_goals
    refine congrArg some ?_
    first
    | (rw [decide_eq_decide]; omega)
    | (symm; rw [decide_eq_false_iff_not]; omega)

theorem spec_validPack_eq (w h s : Int) (fx fy ex : Bool) (a px py : Int) : spec_validPack.f w h s fx fy ex a px py = some (decide (VK w h s a px py)) := by
  unfold spec_validPack.f spec_validSide.f spec_validAnchor.f
  simp only [inrange_eq, Option.bind_some, decide_eq_true_eq]
  repeat' split
  all_goals
    refine congrArg some ?_
    first
    | (rw [decide_eq_decide]; omega)
    | (symm; rw [decide_eq_false_iff_not]; omega)

/-- An item that the program calls valid. -/
abbrev OKP (p : S29) : Prop := VK p.f0 p.f1 p.f2 p.f6 p.f7 p.f8
/-- Items that the program calls valid. -/
def OKL (L : List S29) : Prop := (L.length : Int) ≤ 7 ∧ ∀ j : Nat, j < L.length → OKP (rd_T29 L j)
theorem rdp_get {L : List S29} {i : Nat} (h : i < L.length) : rd_T29 L i = L[i] := by
  unfold rd_T29
  rw [List.getD_eq_getElem?_getD, Int.toNat_natCast, List.getElem?_eq_getElem h]
  rfl
theorem OKL.mem {L : List S29} (h : OKL L) : ∀ p ∈ L, OKP p := by
  intro p hp
  obtain ⟨i, hi, rfl⟩ := List.getElem_of_mem hp
  have := h.2 i hi
  rwa [rdp_get hi] at this
theorem OKL.of_mem {L : List S29} (h7 : (L.length : Int) ≤ 7) (h : ∀ p ∈ L, OKP p) : OKL L := by
  refine ⟨h7, fun j hj => ?_⟩
  rw [rdp_get hj]
  exact h _ (List.getElem_mem hj)
theorem impl_packs_loop {L : List S29} (hl : (L.length : Int) ≤ 1048576) (d : Nat) : ∀ (k i : Nat), i + d = L.length → d + 1 ≤ k → ∃ r, impl_Pack_63.l0 k L (L.length : Int) (i : Int) = some r ∧ ((r < 0 ∧ ∀ j : Nat, i ≤ j → j < L.length → OKP (rd_T29 L j)) ∨ (0 ≤ r ∧ ∃ j : Nat, i ≤ j ∧ j < L.length ∧ ¬ OKP (rd_T29 L j))) := by
  induction d with
  | zero =>
    intro k i hi hk
    obtain ⟨k, rfl⟩ : ∃ m, k = m + 1 := ⟨k - 1, by omega⟩
    rw [impl_Pack_63.l0, if_neg (by omega)]
    exact ⟨_, rfl, .inl ⟨by omega, fun j j0 j1 => by omega⟩⟩
  | succ d ih =>
    intro k i hi hk
    obtain ⟨k, rfl⟩ : ∃ m, k = m + 1 := ⟨k - 1, by omega⟩
    rw [impl_Pack_63.l0, if_pos (by omega), if_pos (by omega), if_pos (by omega), impl_packsOk_lit.f, impl_ValidPack_eq, Option.bind_some, Option.bind_some]
    by_cases h : OKP (rd_T29 L i)
    · obtain ⟨r, e, hr⟩ := ih k (i + 1) (by omega) (by omega)
      rw [decide_eq_true h, if_neg (by decide), w64 (n := (i : Int) + 1) (by omega) (by omega), show (i : Int) + 1 = ((i + 1 : Nat) : Int) from by omega]
      refine ⟨r, e, ?_⟩
      rcases hr with ⟨hr, q⟩ | ⟨hr, j, j0, j1, q⟩
      · refine .inl ⟨hr, fun j j0 j1 => ?_⟩
        by_cases e' : j = i
        · rw [e']; exact h
        · exact q j (by omega) j1
      · exact .inr ⟨hr, j, by omega, j1, q⟩
    · rw [decide_eq_false h, if_pos (by decide)]
      exact ⟨_, rfl, .inr ⟨by omega, i, by omega, by omega, h⟩⟩
theorem impl_packsOk_ok (L : List S29) (hl : (L.length : Int) ≤ 1048576) (k : Nat) (hk : L.length + 1 ≤ k) : (OKL L ∧ impl_packsOk.f k L = some true) ∨ (¬ OKL L ∧ impl_packsOk.f k L = some false) := by
  obtain ⟨r, e, hr⟩ := impl_packs_loop hl L.length k 0 (by omega) hk
  rw [Int.natCast_zero] at e
  unfold impl_packsOk.f impl_Pack_54.f impl_Pack_63.f
  rw [e, Option.bind_some, Option.bind_some]
  by_cases h7 : (L.length : Int) ≤ 7
  · rw [if_pos h7]
    rcases hr with ⟨hr, q⟩ | ⟨hr, j, j0, j1, q⟩
    · rw [decide_eq_false (show ¬ r ≥ 0 by omega)]
      exact .inl ⟨⟨h7, fun j j1 => q j (by omega) j1⟩, rfl⟩
    · rw [decide_eq_true (show r ≥ 0 by omega)]
      exact .inr ⟨fun h => q (h.2 j j1), rfl⟩
  · rw [if_neg h7]
    exact .inr ⟨fun h => h7 h.1, rfl⟩
theorem spec_packs_loop {L : List S29} (hl : (L.length : Int) ≤ 1048576) (d : Nat) : ∀ (k i : Nat), i + d = L.length → d + 1 ≤ k → (∀ j : Nat, j < i → OKP (rd_T29 L j)) → (OKL L ∧ spec_validPacks.l0 k L (i : Int) = some true) ∨ (¬ OKL L ∧ spec_validPacks.l0 k L (i : Int) = some false) := by
  induction d with
  | zero =>
    intro k i hi hk hq
    obtain ⟨k, rfl⟩ : ∃ m, k = m + 1 := ⟨k - 1, by omega⟩
    rw [spec_validPacks.l0, if_neg (by omega)]
    by_cases h7 : (L.length : Int) ≤ 7
    · rw [decide_eq_true h7]
      exact .inl ⟨⟨h7, fun j j1 => hq j (by omega)⟩, rfl⟩
    · rw [decide_eq_false h7]
      exact .inr ⟨fun h => h7 h.1, rfl⟩
  | succ d ih =>
    intro k i hi hk hq
    obtain ⟨k, rfl⟩ : ∃ m, k = m + 1 := ⟨k - 1, by omega⟩
    rw [spec_validPacks.l0, if_pos (by omega), if_pos (by omega), spec_validPack_eq, Option.bind_some]
    by_cases h : OKP (rd_T29 L i)
    · rw [decide_eq_true h, if_pos rfl, w64 (n := (i : Int) + 1) (by omega) (by omega), show (i : Int) + 1 = ((i + 1 : Nat) : Int) from by omega]
      refine ih k (i + 1) (by omega) (by omega) (fun j j1 => ?_)
      by_cases e' : j = i
      · rw [e']; exact h
      · exact hq j (by omega)
    · rw [decide_eq_false h, if_neg (by decide)]
      exact .inr ⟨fun q => h (q.2 i (by omega)), rfl⟩
theorem spec_validPacks_ok (L : List S29) (hl : (L.length : Int) ≤ 1048576) (k : Nat) (hk : L.length + 1 ≤ k) : (OKL L ∧ spec_validPacks.f k L = some true) ∨ (¬ OKL L ∧ spec_validPacks.f k L = some false) := by
  unfold spec_validPacks.f
  have := spec_packs_loop hl L.length k 0 (by omega) hk (fun j j1 => by omega)
  rwa [Int.natCast_zero] at this
theorem down_eq (a b c : Int) (d e f : Bool) (g h i : Int) : impl_Pack_down.f a b c d e f g h i = some (decide (c = 0 ∨ c = 1)) := by
  unfold impl_Pack_down.f
  by_cases h0 : c = 0
  · rw [if_pos h0, decide_eq_true (.inl h0)]
  · rw [if_neg h0]
    refine congrArg some ?_
    rw [Bool.eq_iff_iff]
    simp [h0]
theorem upright_eq (c : Int) : spec_upright.f c = some (decide (c = 0 ∨ c = 1)) := by
  unfold spec_upright.f
  by_cases h0 : c = 0
  · rw [if_pos h0, decide_eq_true (.inl h0)]
  · rw [if_neg h0]
    refine congrArg some ?_
    rw [Bool.eq_iff_iff]
    simp [h0]

theorem half_ok {r n : Int} (hn : 1 ≤ n) (r0 : -100000 ≤ r) (r1 : r ≤ 400) : spec_half.f r n = some (max r 0 / n) ∧ wrap64 (mx r 0 / n) = max r 0 / n ∧ 0 ≤ max r 0 / n ∧ max r 0 / n ≤ 400 := by
  have h := div_range (a := max r 0) (b := n) (by omega) (by omega)
  refine ⟨?_, ?_, h.1, by omega⟩
  · unfold spec_half.f
    by_cases hr : r < 0
    · rw [if_pos hr, show max r 0 = 0 from by omega]
      simp
    · have e : max r 0 = r := by omega
      rw [e] at h ⊢
      rw [if_neg hr, if_neg (by omega), td2 (by omega), w64 (by omega) (by omega)]
  · rw [mx_eq, w64 (by omega) (by omega)]
/-- What an item needs in a direction. -/
def nd (p : S29) (down : Bool) : Int := if down = true then p.f1 + 2 * p.f8 else p.f0 + 2 * p.f7
theorem nd_range {p : S29} (h : OKP p) (down : Bool) : 0 ≤ nd p down ∧ nd p down ≤ 50 := by
  unfold nd
  split <;> omega
theorem need_ok {p : S29} (h : OKP p) (down : Bool) : impl_Pack_need.f p.f0 p.f1 p.f2 p.f3 p.f4 p.f5 p.f6 p.f7 p.f8 down = some (nd p down) := by
  unfold impl_Pack_need.f impl_Pack_needs.f nd
  rw [Option.bind_some, w64 (n := 2 * p.f7) (by omega) (by omega), w64 (n := 2 * p.f8) (by omega) (by omega), w64 (n := p.f0 + 2 * p.f7) (by omega) (by omega), w64 (n := p.f1 + 2 * p.f8) (by omega) (by omega)]
  split <;> rfl
theorem spec_step {L : List S29} (k : Nat) (i : Nat) (room best n : Int) (down : Bool) (hi : i < L.length) (h : OKP (rd_T29 L i)) : spec_share.l0 (k + 1) L room down best n (i : Int) = spec_share.j1 k L room down best n (i : Int) (nd (rd_T29 L i) down) := by
  rw [spec_share.l0, if_pos (by omega), if_pos (by omega), spec_outer.f, Option.bind_some]
  generalize rd_T29 L i = p at *
  dsimp only
  rw [w64 (n := 2 * p.f7) (by omega) (by omega), w64 (n := 2 * p.f8) (by omega) (by omega), w64 (n := p.f0 + 2 * p.f7) (by omega) (by omega), w64 (n := p.f1 + 2 * p.f8) (by omega) (by omega)]
  unfold nd
  split <;> rfl
theorem share_loop {L : List S29} (h : OKL L) (down : Bool) (d : Nat) : ∀ (k k' i : Nat) (room best n : Int), i + d = L.length → d + 1 ≤ k → 2 * d + 2 ≤ k' → 1 ≤ n → n ≤ i → 0 ≤ best → best ≤ 400 → -50 * (i : Int) ≤ room → room ≤ 400 → ∃ v, impl_expandShare.l0 k room down best n L (L.length : Int) (i : Int) = some v ∧ spec_share.l0 k' L room down best n (i : Int) = some v := by
  have h7 := h.1
  induction d with
  | zero =>
    intro k k' i room best n hi hk hk' n1 ni b0 b1 r0 r1
    obtain ⟨k, rfl⟩ : ∃ m, k = m + 1 := ⟨k - 1, by omega⟩
    obtain ⟨k', rfl⟩ : ∃ m, k' = m + 1 := ⟨k' - 1, by omega⟩
    obtain ⟨q1, q2, q3, q4⟩ := half_ok (r := room) n1 (by omega) r1
    rw [impl_expandShare.l0, if_neg (by omega), if_neg (by omega), spec_share.l0, if_neg (by omega), if_pos (by omega), q1, Option.bind_some, q2]
    refine ⟨_, rfl, ?_⟩
    rw [mx_eq, mn_eq]
    congr 1
    omega
  | succ d ih =>
    intro k k' i room best n hi hk hk' n1 ni b0 b1 r0 r1
    obtain ⟨k, rfl⟩ : ∃ m, k = m + 1 := ⟨k - 1, by omega⟩
    obtain ⟨k', rfl⟩ : ∃ m, k' = m + 2 := ⟨k' - 2, by omega⟩
    have hp := h.2 i (by omega)
    have hd := nd_range hp down
    rw [spec_step (k' + 1) i room best n down (by omega) hp, spec_share.j1, if_pos (by omega), if_pos (by omega), upright_eq, Option.bind_some, impl_expandShare.l0, if_pos (by omega), if_pos (by omega), if_pos (by omega), down_eq, Option.bind_some, need_ok hp, Option.bind_some, Option.bind_some, w64 (n := (i : Int) + 1) (by omega) (by omega), show (i : Int) + 1 = ((i + 1 : Nat) : Int) from by omega, w64 (n := room - nd (rd_T29 L i) down) (by omega) (by omega), w64 (n := n + 1) (by omega) (by omega)]
    by_cases hu : (decide ((rd_T29 L i).f2 = 0 ∨ (rd_T29 L i).f2 = 1) == down) = true
    · rw [if_pos hu, if_pos hu]
      by_cases hx : (rd_T29 L i).f5 = true
      · rw [if_pos hx, if_pos hx]
        exact ih k k' (i + 1) _ best (n + 1) (by omega) (by omega) (by omega) (by omega) (by omega) b0 b1 (by omega) (by omega)
      · rw [if_neg hx, if_neg hx]
        exact ih k k' (i + 1) _ best n (by omega) (by omega) (by omega) n1 (by omega) b0 b1 (by omega) (by omega)
    · obtain ⟨q1, q2, q3, q4⟩ := half_ok (r := room - nd (rd_T29 L i) down) n1 (by omega) (by omega)
      rw [if_neg hu, if_neg hu, if_neg (show ¬ n = 0 by omega), if_pos (show n > 0 by omega), q1, Option.bind_some, q2]
      exact ih k k' (i + 1) room _ n (by omega) (by omega) (by omega) n1 (by omega) (by rw [mn_eq]; omega) (by rw [mn_eq]; omega) (by omega) r1
theorem share_ok {L : List S29} (h : OKL L) (room : Int) (down : Bool) (hr : 0 ≤ room ∧ room ≤ 400) (h0 : 0 < L.length) (hx : (rd_T29 L 0).f5 = true) (hu : decide ((rd_T29 L 0).f2 = 0 ∨ (rd_T29 L 0).f2 = 1) = down) (k : Nat) (hk : 30 ≤ k) : ∃ v, impl_expandShare.f k L room down = some v ∧ spec_share.f k L room down = some v := by
  have h7 := h.1
  obtain ⟨k, rfl⟩ : ∃ m, k = m + 2 := ⟨k - 2, by omega⟩
  have hp := h.2 0 h0
  have hd := nd_range hp down
  have hs := spec_step (k + 1) 0 room room 0 down h0 hp
  rw [Int.natCast_zero] at hs hp hd
  unfold impl_expandShare.f spec_share.f
  rw [hs, spec_share.j1, if_pos (by omega), if_pos (by omega), upright_eq, Option.bind_some, impl_expandShare.l0, if_pos (by omega), if_pos (by omega), if_pos (by omega), down_eq, Option.bind_some, need_ok hp, Option.bind_some, Option.bind_some, w64 (n := (0 : Int) + 1) (by omega) (by omega), w64 (n := room - nd (rd_T29 L 0) down) (by omega) (by omega), hu, if_pos (show (down == down) = true by simp), if_pos (show (down == down) = true by simp), if_pos hx, if_pos hx, show (0 : Int) + 1 = ((1 : Nat) : Int) from rfl]
  exact share_loop h down (L.length - 1) (k + 1) k 1 _ room _ (by omega) (by omega) (by omega) (by omega) (by omega) (by omega) (by omega) (by omega) (by omega)
theorem shares_ok (L : List S29) (hl : (L.length : Int) ≤ 1048576) (room : Int) (down : Bool) (k : Nat) (hk : L.length + 30 ≤ k) : ∃ v, impl_ExpandShare.f k L room down = some v ∧ spec_ExpandShare.f k L room down = some v := by
  unfold impl_ExpandShare.f spec_ExpandShare.f
  by_cases h : OKL L
  · rcases impl_packsOk_ok L hl k (by omega) with ⟨_, e1⟩ | ⟨h', _⟩
    · rcases spec_validPacks_ok L hl k (by omega) with ⟨_, e2⟩ | ⟨h', _⟩
      · rw [e1, e2, Option.bind_some, Option.bind_some, if_pos rfl, if_pos rfl]
        by_cases h0 : (L.length : Int) = 0
        · rw [if_pos h0, if_pos h0]
          exact ⟨_, rfl, rfl⟩
        · rw [if_neg h0, if_neg h0, within_eq, inrange_eq, Option.bind_some, Option.bind_some, if_pos (show 0 < (L.length : Int) by omega), if_pos (show 0 < (L.length : Int) by omega), down_eq, upright_eq, Option.bind_some, Option.bind_some]
          by_cases hr : 0 ≤ room ∧ room ≤ 400
          · rw [decide_eq_true hr, if_pos rfl, if_pos rfl]
            by_cases hx : (rd_T29 L 0).f5 = true
            · rw [if_pos hx, if_pos hx]
              by_cases hu : (decide ((rd_T29 L 0).f2 = 0 ∨ (rd_T29 L 0).f2 = 1) != down) = true
              · rw [if_pos hu, if_pos hu]
                exact ⟨_, rfl, rfl⟩
              · have hu' : decide ((rd_T29 L 0).f2 = 0 ∨ (rd_T29 L 0).f2 = 1) = down := by simpa using hu
                obtain ⟨v, e3, e4⟩ := share_ok h room down hr (by omega) hx hu' k (by omega)
                rw [if_neg hu, if_neg hu, e3, e4, Option.bind_some]
                exact ⟨_, rfl, rfl⟩
            · rw [if_neg hx, if_neg hx]
              exact ⟨_, rfl, rfl⟩
          · rw [decide_eq_false hr, if_neg (by decide)]
            by_cases hx : (rd_T29 L 0).f5 = true
            · rw [if_pos hx, if_neg (by decide)]
              exact ⟨_, rfl, rfl⟩
            · rw [if_neg hx]
              exact ⟨_, rfl, rfl⟩
      · exact absurd h h'
    · exact absurd h h'
  · rcases impl_packsOk_ok L hl k (by omega) with ⟨h', _⟩ | ⟨_, e1⟩
    · exact absurd h' h
    · rcases spec_validPacks_ok L hl k (by omega) with ⟨h', _⟩ | ⟨_, e2⟩
      · exact absurd h' h
      · rw [e1, e2, Option.bind_some, Option.bind_some, if_neg (by decide), if_neg (by decide)]
        exact ⟨_, rfl, rfl⟩

/-- An item as the program has it. -/
def conv (p : S56) : S29 := ⟨p.f0, p.f1, p.f2, p.f3, p.f4, p.f5, p.f6, p.f7, p.f8⟩
theorem rdq_get {L : List S56} {i : Nat} (h : i < L.length) : rd_T56 L i = L[i] := by
  unfold rd_T56
  rw [List.getD_eq_getElem?_getD, Int.toNat_natCast, List.getElem?_eq_getElem h]
  rfl
theorem toPackS_loop {l : List S56} (hl : (l.length : Int) ≤ 1048576) (d : Nat) : ∀ (k i : Nat), i + d = l.length → d + 1 ≤ k → laws_toPackS.l0 k l ((l.map conv).take i ++ List.replicate d z29) (i : Int) = some (l.map conv) := by
  have hm : (l.map conv).length = l.length := List.length_map ..
  induction d with
  | zero =>
    intro k i hi hk
    obtain ⟨k, rfl⟩ : ∃ m, k = m + 1 := ⟨k - 1, by omega⟩
    rw [laws_toPackS.l0, if_neg (by omega), List.take_of_length_le (by omega)]
    simp
  | succ d ih =>
    intro k i hi hk
    obtain ⟨k, rfl⟩ : ∃ m, k = m + 1 := ⟨k - 1, by omega⟩
    have e : ((l.map conv).take i ++ List.replicate (d + 1) z29).set (i : Int).toNat (conv (rd_T56 l i)) = (l.map conv).take (i + 1) ++ List.replicate d z29 := by
      rw [Int.toNat_natCast, List.replicate_succ, List.set_append_right _ _ (by rw [List.length_take]; omega), List.length_take, show i - min i (l.map conv).length = 0 from by omega, List.set_cons_zero, List.take_succ_eq_append_getElem (by omega), rdq_get (by omega), List.append_assoc, List.getElem_map]
      rfl
    have hlen : (((l.map conv).take i ++ List.replicate (d + 1) z29).length : Int) = l.length := by
      rw [List.length_append, List.length_take, List.length_replicate]
      omega
    rw [laws_toPackS.l0, if_pos (by omega), if_pos (by omega), laws_toPack.f, Option.bind_some, if_pos (by rw [hlen]; omega), w64 (n := (i : Int) + 1) (by omega) (by omega), show (i : Int) + 1 = ((i + 1 : Nat) : Int) from by omega]
    change laws_toPackS.l0 k l (((l.map conv).take i ++ List.replicate (d + 1) z29).set (i : Int).toNat (conv (rd_T56 l i))) _ = _
    rw [e]
    exact ih k (i + 1) (by omega) (by omega)
theorem toPackS_ok {l : List S56} (hl : (l.length : Int) ≤ 1048576) (k : Nat) (hk : l.length + 1 ≤ k) : laws_toPackS.f k l = some (l.map conv) := by
  unfold laws_toPackS.f
  rw [if_pos (by omega), if_pos (by omega)]
  have h := toPackS_loop hl l.length k 0 (by omega) hk
  simpa using h
theorem eqPack_ok (a b c : Int) (d e f : Bool) (g h i : Int) : laws_eqPack.f a b c d e f g h i a b c d e f g h i = some true := by
  unfold laws_eqPack.f
  rw [if_pos rfl, if_pos rfl, if_pos rfl, if_neg (by cases d <;> decide), if_neg (by cases e <;> decide), if_neg (by cases f <;> decide), if_pos rfl, if_pos rfl, if_pos rfl]
theorem eqPackS_loop {l : List S29} (hl : (l.length : Int) ≤ 1048576) (d : Nat) : ∀ (k : Nat) (i : Int), i + d = (l.length : Int) → 0 ≤ i → d + 1 ≤ k → laws_eqPackS.l0 k l l i = some true := by
  induction d with
  | zero =>
    intro k i hi h0 hk
    obtain ⟨k, rfl⟩ : ∃ m, k = m + 1 := ⟨k - 1, by omega⟩
    rw [laws_eqPackS.l0, if_neg (by omega)]
  | succ d ih =>
    intro k i hi h0 hk
    obtain ⟨k, rfl⟩ : ∃ m, k = m + 1 := ⟨k - 1, by omega⟩
    rw [laws_eqPackS.l0, if_pos (by omega), if_pos h0, if_pos (by omega), eqPack_ok, Option.bind_some, if_pos rfl, w64 (n := i + 1) (by omega) (by omega)]
    exact ih k (i + 1) (by omega) (by omega) (by omega)
theorem eqPackS_ok {l : List S29} (hl : (l.length : Int) ≤ 1048576) (k : Nat) (hk : l.length + 1 ≤ k) : laws_eqPackS.f k l l = some true := by
  unfold laws_eqPackS.f
  rw [if_pos rfl]
  exact eqPackS_loop hl l.length k 0 (by omega) (by omega) hk
theorem szPackS_ok {L : List S56} (hL : L.length ≤ maxLen) : ∃ v, laws_szPackS.f L 1048576 = some v ∧ (v < 0 ∨ (L.length : Int) ≤ 1048576) := by
  have e : maxLen = 9223372036854775807 := by decide
  rw [e] at hL
  unfold laws_szPackS.f
  rw [w64 (n := 1048576 - (L.length : Int)) (by omega) (by omega)]
  by_cases h1 : 1048576 - (L.length : Int) < 0
  · rw [if_pos h1]
    exact ⟨-1, rfl, .inl (by omega)⟩
  · rw [if_neg h1]
    exact ⟨_, rfl, .inr (by omega)⟩

theorem FnExactExpandShare (l0 : List S56) (a1 : Int) (a2 : Bool) (hl : l0.length ≤ maxLen) (w1 : (Lit.int .i64 a1).wf = true) : ∃ k, laws_FnExactExpandShare.f k l0 a1 a2 = some true := by
  refine ⟨l0.length + 40, ?_⟩
  unfold laws_FnExactExpandShare.f
  obtain ⟨v, e, hv⟩ := szPackS_ok hl
  rw [e, Option.bind_some]
  by_cases hn : v < 0
  · rw [if_pos hn]
  · have hb : (l0.length : Int) ≤ 1048576 := by omega
    have hm : (l0.map conv).length = l0.length := List.length_map ..
    rw [if_neg hn, toPackS_ok hb _ (by omega), Option.bind_some]
    obtain ⟨v, e1, e2⟩ := shares_ok (l0.map conv) (by omega) a1 a2 (l0.length + 40) (by omega)
    rw [e2, Option.bind_some, Option.bind_some, e1, Option.bind_some, if_pos rfl, Option.bind_some, eqPackS_ok (by omega) _ (by omega), Option.bind_some, if_pos rfl]

end Go.Proofs.Ytffihkpnampboaa.Pure
