/- Contracts of the functions that FnPackRequest reaches: own text, written by reown.py after the print's pattern. No condition. -/
import Derived.Test.YtffihkpnampboaaQFnPackRequestx0
import Derived.Test.YtffihkpnampboaaQFnPackRequestx2
import Derived.Test.YtffihkpnampboaaQFnPackRequestx3
namespace Go.Proofs.Ytffihkpnampboaa.PFnPackRequest
open Go.RowKit Go.Proofs.YtffihkpnampboaaW.PrintWords Go.Proofs.YtffihkpnampboaaW.PrintLast Go.Proofs.YtffihkpnampboaaW.PrintMore
open Go.Proofs.Ytffihkpnampboaa.MxMn
attribute [local go_sem] max2_mx min2_mn max_two min_two max_three min_three max_four min_four   -- for this text's walks alone
set_option linter.unusedVariables false
set_option linter.unusedSimpArgs false

/-! ### laws_FnPackRequest: function 3 -/
mutual
def laws_FnPackRequest.j0 : Nat → List (S29) → Int → Int → Int → Int → Bool → Option (Bool)
  | 0, _, _, _, _, _, _ => none
  | k + 1, x3, x4, x5, x6, x7, x45 => if x45 = true then (if x4 = x6 then (some (x5 == x7)) else (some false)) else (if 1 ≤ (x3.length : Int) then ((impl_PackRequest.f k (x3.drop 1)).bind fun bt284 => ((some (([] : List (S29)) : List (S29))).bind fun y286 => (if y286.length + x3.length < 2513169434916 then (laws_FnPackRequest.l0 k x4 x5 bt284.1 bt284.2 (y286 ++ x3) 0) else (none)))) else (none))
def laws_FnPackRequest.l0 : Nat → Int → Int → Int → Int → List (S29) → Int → Option (Bool)
  | 0, _, _, _, _, _, _ => none
  | k + 1, x4, x5, x8, x9, x10, x11 => if x11 < (x10.length : Int) then ((some (([1, 0, 3, 2] : List Int) : List Int)).bind fun y292 => (if 0 ≤ x11 then (if 0 ≤ ((rd_T29 x10 x11).f2) then (if ((rd_T29 x10 x11).f2) < (y292.length : Int) then (laws_FnPackRequest.l0 k x4 x5 x8 x9 (x10.set (x11 : Int).toNat (⟨(rd_T29 x10 x11).f0, (rd_T29 x10 x11).f1, rd y292 ((rd_T29 x10 x11).f2), (rd_T29 x10 x11).f3, (rd_T29 x10 x11).f4, (rd_T29 x10 x11).f5, (rd_T29 x10 x11).f6, (rd_T29 x10 x11).f7, (rd_T29 x10 x11).f8⟩ : S29)) (wrap64 (x11 + 1))) else (none)) else (none)) else (none))) else ((impl_PackRequest.f k x10).bind fun bt298 => (if x8 ≤ x4 then (if x9 ≤ x5 then (if bt298.1 = x4 then (some (bt298.2 == x5)) else (some false)) else (some false)) else (some false)))
end
def laws_FnPackRequest.f (k : Nat) (l0 : List Int) : Option (Bool) := if (l0.length : Int) > 1048576 then (some true) else ((spec_DrawPackRequest.f k l0).bind fun t273 => ((impl_PackRequest.f k t273).bind fun bt276 => ((spec_PackRequest.f k t273).bind fun bt278 => (if bt276.1 = bt278.1 then (if bt276.2 = bt278.2 then (if bt276.1 < 0 then (laws_FnPackRequest.j0 k t273 bt276.1 bt276.2 bt278.1 bt278.2 true) else (laws_FnPackRequest.j0 k t273 bt276.1 bt276.2 bt278.1 bt278.2 ((t273.length : Int) == 0))) else (laws_FnPackRequest.j0 k t273 bt276.1 bt276.2 bt278.1 bt278.2 true)) else (laws_FnPackRequest.j0 k t273 bt276.1 bt276.2 bt278.1 bt278.2 true)))))
theorem laws_FnPackRequest.mono_l : ∀ k, (∀ y0 y1 y2 y3 y4 y5, LeO (laws_FnPackRequest.j0 k y0 y1 y2 y3 y4 y5) (laws_FnPackRequest.j0 (k + 1) y0 y1 y2 y3 y4 y5)) ∧ (∀ y0 y1 y2 y3 y4 y5, LeO (laws_FnPackRequest.l0 k y0 y1 y2 y3 y4 y5) (laws_FnPackRequest.l0 (k + 1) y0 y1 y2 y3 y4 y5))
  | 0 => ⟨fun _ _ _ _ _ _ r h => by simp [laws_FnPackRequest.j0] at h, fun _ _ _ _ _ _ r h => by simp [laws_FnPackRequest.l0] at h⟩
  | k + 1 => by
    obtain ⟨ih0, ih1⟩ := laws_FnPackRequest.mono_l k
    refine ⟨?_, ?_⟩
    · intro y0 y1 y2 y3 y4 y5
      unfold laws_FnPackRequest.j0
      repeat' first
      | (with_reducible exact ih0 _ _ _ _ _ _)
      | (with_reducible exact ih1 _ _ _ _ _ _)
      | (with_reducible exact impl_PackRequest.mono _ _)
      | (with_reducible exact spec_DrawPackRequest.mono _ _)
      | (with_reducible exact spec_PackRequest.mono _ _)
      | (with_reducible exact LeO.refl _)
      | (with_reducible exact LeO.none _)
      | (with_reducible refine LeO.ite ?_ ?_)
      | (with_reducible refine LeO.bind ?_ (fun _ => ?_))
      | exact ih0 _ _ _ _ _ _
      | exact ih1 _ _ _ _ _ _
      | exact impl_PackRequest.mono _ _
      | exact spec_DrawPackRequest.mono _ _
      | exact spec_PackRequest.mono _ _
      | exact LeO.none _
      | refine LeO.ite ?_ ?_
      | refine LeO.bind ?_ (fun _ => ?_)
    · intro y0 y1 y2 y3 y4 y5
      unfold laws_FnPackRequest.l0
      repeat' first
      | (with_reducible exact ih0 _ _ _ _ _ _)
      | (with_reducible exact ih1 _ _ _ _ _ _)
      | (with_reducible exact impl_PackRequest.mono _ _)
      | (with_reducible exact spec_DrawPackRequest.mono _ _)
      | (with_reducible exact spec_PackRequest.mono _ _)
      | (with_reducible exact LeO.refl _)
      | (with_reducible exact LeO.none _)
      | (with_reducible refine LeO.ite ?_ ?_)
      | (with_reducible refine LeO.bind ?_ (fun _ => ?_))
      | exact ih0 _ _ _ _ _ _
      | exact ih1 _ _ _ _ _ _
      | exact impl_PackRequest.mono _ _
      | exact spec_DrawPackRequest.mono _ _
      | exact spec_PackRequest.mono _ _
      | exact LeO.none _
      | refine LeO.ite ?_ ?_
      | refine LeO.bind ?_ (fun _ => ?_)
theorem laws_FnPackRequest.mono : ∀ a0 k, LeO (laws_FnPackRequest.f k a0) (laws_FnPackRequest.f (k + 1) a0) := by
  intro a0 k
  obtain ⟨ih0, ih1⟩ := laws_FnPackRequest.mono_l k
  unfold laws_FnPackRequest.f
  repeat' first
      | (with_reducible exact ih0 _ _ _ _ _ _)
      | (with_reducible exact ih1 _ _ _ _ _ _)
      | (with_reducible exact impl_PackRequest.mono _ _)
      | (with_reducible exact spec_DrawPackRequest.mono _ _)
      | (with_reducible exact spec_PackRequest.mono _ _)
      | (with_reducible exact LeO.refl _)
      | (with_reducible exact LeO.none _)
      | (with_reducible refine LeO.ite ?_ ?_)
      | (with_reducible refine LeO.bind ?_ (fun _ => ?_))
      | exact ih0 _ _ _ _ _ _
      | exact ih1 _ _ _ _ _ _
      | exact impl_PackRequest.mono _ _
      | exact spec_DrawPackRequest.mono _ _
      | exact spec_PackRequest.mono _ _
      | exact LeO.none _
      | refine LeO.ite ?_ ?_
      | refine LeO.bind ?_ (fun _ => ?_)
set_option maxHeartbeats 8000000 in
set_option maxRecDepth 100000 in
theorem laws_FnPackRequest.calls (k : Nat) (A0 : Option Addr) (c0 : Nat) (l0 : List Int) (r : Bool) (w : World) (hr0 : Kd.C (Kd.int .u8) w A0 l0.length l0) (hc0 : l0.length ≤ c0) (h : laws_FnPackRequest.f k l0 = some r) :
    Calls Try.prog 3 #[.slice A0 l0.length c0] w fun e w' => e = .returned (.bool r) ∧ Below w.heap.size w w' := by
  have HR0 := Aside0.mk hr0
  have HC0 := Aside0.mk hc0
  clear hr0 hc0
  have HB := Aside0.mk (Below.refl w.heap.size w)
  have H : (if (l0.length : Int) > 1048576 then (some true) else ((spec_DrawPackRequest.f k l0).bind fun t273 => ((impl_PackRequest.f k t273).bind fun bt276 => ((spec_PackRequest.f k t273).bind fun bt278 => (if bt276.1 = bt278.1 then (if bt276.2 = bt278.2 then (if bt276.1 < 0 then (laws_FnPackRequest.j0 k t273 bt276.1 bt276.2 bt278.1 bt278.2 true) else (laws_FnPackRequest.j0 k t273 bt276.1 bt276.2 bt278.1 bt278.2 ((t273.length : Int) == 0))) else (laws_FnPackRequest.j0 k t273 bt276.1 bt276.2 bt278.1 bt278.2 true)) else (laws_FnPackRequest.j0 k t273 bt276.1 bt276.2 bt278.1 bt278.2 true)))))) = some r := h
  clear h
  by_cases c2 : (l0.length : Int) > 1048576
  · rw [if_pos c2] at H
    have c2b0 : decide (1048576 < (l0.length : Int)) = true := decide_eq_true c2
    have c2b1 : decide (1048576 < l0.length) = true := decide_eq_true (by omega)
    clear c2
    obtain rfl := Option.some.inj H
    go_enter Try.func3, Try.ntmps3
    go_wp2
    go_ret
    exact ⟨by first | rfl | (simp [errW_none, errW_some] <;> rfl) | (simp [*, errW_none, errW_some] <;> rfl), by repeat (first | (with_reducible first | exact HB.out | apply below_alloc | apply pw_below_drewN | apply below_drew1) | exact HB.out)⟩
  · rw [if_neg c2] at H
    have c2b0 : decide (1048576 < (l0.length : Int)) = false := decide_eq_false c2
    have c2b1 : decide (1048576 < l0.length) = false := decide_eq_false (by omega)
    clear c2
    replace H := Option.bind_eq_some_iff.mp H
    obtain ⟨t273, A30, H⟩ := H
    replace H : ((impl_PackRequest.f k t273).bind fun bt276 => ((spec_PackRequest.f k t273).bind fun bt278 => (if bt276.1 = bt278.1 then (if bt276.2 = bt278.2 then (if bt276.1 < 0 then (laws_FnPackRequest.j0 k t273 bt276.1 bt276.2 bt278.1 bt278.2 true) else (laws_FnPackRequest.j0 k t273 bt276.1 bt276.2 bt278.1 bt278.2 ((t273.length : Int) == 0))) else (laws_FnPackRequest.j0 k t273 bt276.1 bt276.2 bt278.1 bt278.2 true)) else (laws_FnPackRequest.j0 k t273 bt276.1 bt276.2 bt278.1 bt278.2 true)))) = some r := H
    have A3 := Aside0.mk A30
    clear A30
    replace H := Option.bind_eq_some_iff.mp H
    obtain ⟨⟨t276, t277⟩, A40, H⟩ := H
    replace H : ((spec_PackRequest.f k t273).bind fun bt278 => (if t276 = bt278.1 then (if t277 = bt278.2 then (if t276 < 0 then (laws_FnPackRequest.j0 k t273 t276 t277 bt278.1 bt278.2 true) else (laws_FnPackRequest.j0 k t273 t276 t277 bt278.1 bt278.2 ((t273.length : Int) == 0))) else (laws_FnPackRequest.j0 k t273 t276 t277 bt278.1 bt278.2 true)) else (laws_FnPackRequest.j0 k t273 t276 t277 bt278.1 bt278.2 true))) = some r := H
    have A4 := Aside0.mk A40
    clear A40
    replace H := Option.bind_eq_some_iff.mp H
    obtain ⟨⟨t278, t279⟩, A50, H⟩ := H
    replace H : (if t276 = t278 then (if t277 = t279 then (if t276 < 0 then (laws_FnPackRequest.j0 k t273 t276 t277 t278 t279 true) else (laws_FnPackRequest.j0 k t273 t276 t277 t278 t279 ((t273.length : Int) == 0))) else (laws_FnPackRequest.j0 k t273 t276 t277 t278 t279 true)) else (laws_FnPackRequest.j0 k t273 t276 t277 t278 t279 true)) = some r := H
    have A5 := Aside0.mk A50
    clear A50
    have HC6 := Aside0.mk H
    clear H
    go_enter Try.func3, Try.ntmps3
    go_upto_region 6 with (first | ((with_reducible refine gate_callee (f := 8) rfl ?_); refine goesL_ (some 18) rfl rfl Try.func8 (by kernel_rfl) rfl #[.slice A0 l0.length c0] rfl (by (try simp only [List.map_toArray, List.map_cons, List.map_nil]); first | done | rfl | (simp only [List.length_drop, List.length_take]; rfl)) ?_; (with_reducible refine (spec_DrawPackRequest.calls k _ _ l0 t273 _ ?side1 ?side2 A3.out).mono ?_); (case side1 => repeat (first | exact HR0.out | (with_reducible refine Kd.C_alloc ?_ _) | (with_reducible refine Kd.C_drewN ?_ _) | (with_reducible refine Kd.C_drew ?_))); (case side2 => exact HC0.out); rintro e w7 ⟨v274, rfl, ho0, hb⟩; refine ⟨_, rfl, ?_⟩; have n0_ := Aside0.mk (Kd.R_lower ho0 (below_size (by repeat (first | (with_reducible first | exact HB.out | apply below_alloc | apply pw_below_drewN | apply below_drew1) | exact HB.out)))); have n1_ := Aside0.mk (below_step (by repeat (first | (with_reducible first | exact HB.out | apply below_alloc | apply pw_below_drewN | apply below_drew1) | exact HB.out)) hb); clear HB; have HO275 := n0_; have HB := n1_; clear n0_ n1_; (try clear hb); (try clear hb2); (try clear hk); (try clear hi); (try clear ho0); obtain ⟨Ao8, co8, eo8⟩ := Kd.R_slice HO275.out; subst eo8) | ((with_reducible refine gate_callee (f := 9) rfl ?_); refine goesL_ (some 21) rfl rfl Try.func9 (by kernel_rfl) rfl #[.slice Ao8 t273.length co8] rfl (by (try simp only [List.map_toArray, List.map_cons, List.map_nil]); first | done | rfl | (simp only [List.length_drop, List.length_take]; rfl)) ?_; (with_reducible refine (impl_PackRequest.calls k _ _ t273 t276 t277 _ ?side1 ?side2 A4.out).mono ?_); (case side1 => repeat (first | exact (Kd.R_reads' HO275.out).2.2 | (with_reducible refine Kd.C_alloc ?_ _) | (with_reducible refine Kd.C_drewN ?_ _) | (with_reducible refine Kd.C_drew ?_))); (case side2 => exact (Kd.R_reads' HO275.out).2.1); rintro e w9 ⟨rfl, hb⟩; refine ⟨_, rfl, ?_⟩; have n0_ := Aside0.mk (Kd.R_below (by (with_reducible repeat (first | apply Kd.R_alloc | apply Kd.R_drewN | apply Kd.R_drew)); exact HO275.out) hb); have n1_ := Aside0.mk (below_step (by repeat (first | (with_reducible first | exact HB.out | apply below_alloc | apply pw_below_drewN | apply below_drew1) | exact HB.out)) hb); clear HO275; clear HB; have HO275 := n0_; have HB := n1_; clear n0_ n1_; (try clear hb); (try clear hb2); (try clear hk); (try clear hi)) | ((with_reducible refine gate_callee (f := 10) rfl ?_); refine goesL_ (some 26) rfl rfl Try.func10 (by kernel_rfl) rfl #[.slice Ao8 t273.length co8] rfl (by (try simp only [List.map_toArray, List.map_cons, List.map_nil]); first | done | rfl | (simp only [List.length_drop, List.length_take]; rfl)) ?_; (with_reducible refine (spec_PackRequest.calls k _ _ t273 t278 t279 _ ?side1 ?side2 A5.out).mono ?_); (case side1 => repeat (first | exact (Kd.R_reads' HO275.out).2.2 | (with_reducible refine Kd.C_alloc ?_ _) | (with_reducible refine Kd.C_drewN ?_ _) | (with_reducible refine Kd.C_drew ?_))); (case side2 => exact (Kd.R_reads' HO275.out).2.1); rintro e w10 ⟨rfl, hb⟩; refine ⟨_, rfl, ?_⟩; have n0_ := Aside0.mk (Kd.R_below (by (with_reducible repeat (first | apply Kd.R_alloc | apply Kd.R_drewN | apply Kd.R_drew)); exact HO275.out) hb); have n1_ := Aside0.mk (below_step (by repeat (first | (with_reducible first | exact HB.out | apply below_alloc | apply pw_below_drewN | apply below_drew1) | exact HB.out)) hb); clear HO275; clear HB; have HO275 := n0_; have HB := n1_; clear n0_ n1_; (try clear hb); (try clear hb2); (try clear hk); (try clear hi)))
    (try simp only [Act.put, List.setIfInBounds_toArray, List.set_cons_zero, List.set_cons_succ])
    go_cut [45] (fun v45 wc => ∃ (kq : Nat) (x45_5 : Bool), v45 = .bool x45_5 ∧ Aside0 (laws_FnPackRequest.j0 kq t273 t276 t277 t278 t279 x45_5 = some r) ∧ Aside0 (kq ≤ k) ∧ Aside0 (Kd.R k29 29 wc w.heap.size (fun _ => True) (.slice Ao8 t273.length co8) t273) ∧ Aside0 (Below w.heap.size w wc))
    case first =>
      have H := HC6.out
      clear HC6
      by_cases c11 : t276 = t278
      · rw [if_pos c11] at H
        have c11b0 : (t276 == t278) = true := beq_iff_eq.mpr c11
        have c11b1 : (t276 != t278) = false := bne_eq_false_iff_eq.mpr c11
        clear c11
        (first | rw [c11b0] | (simp only [i64_w, i32_w]; rw [c11b0]) | skip)
        by_cases c12 : t277 = t279
        · rw [if_pos c12] at H
          have c12b0 : (t277 == t279) = true := beq_iff_eq.mpr c12
          have c12b1 : (t277 != t279) = false := bne_eq_false_iff_eq.mpr c12
          clear c12
          by_cases c13 : t276 < 0
          · rw [if_pos c13] at H
            have c13b0 : decide (t276 < 0) = true := decide_eq_true c13
            clear c13
            have H' := Aside0.mk H
            clear H
            go_wp2
            go_meet
            case rel => exact ⟨_, (true), (by first | rfl | (simp; done) | (simp [*]; done)), H', ⟨by first | omega | exact Nat.le_refl _⟩, ⟨by (with_reducible repeat (first | apply Kd.R_alloc | apply Kd.R_drewN | apply Kd.R_drew)); exact HO275.out⟩, ⟨by repeat (first | (with_reducible first | exact HB.out | apply below_alloc | apply pw_below_drewN | apply below_drew1) | exact HB.out)⟩⟩
          · rw [if_neg c13] at H
            have c13b0 : decide (t276 < 0) = false := decide_eq_false c13
            clear c13
            have H' := Aside0.mk H
            clear H
            go_wp2
            go_meet
            case rel => exact ⟨_, (((t273.length : Int) == 0)), (by first | rfl | (simp; done) | (simp [*]; done)), H', ⟨by first | omega | exact Nat.le_refl _⟩, ⟨by (with_reducible repeat (first | apply Kd.R_alloc | apply Kd.R_drewN | apply Kd.R_drew)); exact HO275.out⟩, ⟨by repeat (first | (with_reducible first | exact HB.out | apply below_alloc | apply pw_below_drewN | apply below_drew1) | exact HB.out)⟩⟩
        · rw [if_neg c12] at H
          have c12b0 : (t277 == t279) = false := beq_eq_false_iff_ne.mpr c12
          have c12b1 : (t277 != t279) = true := bne_iff_ne.mpr c12
          have H' := Aside0.mk H
          clear H
          go_wp2
          go_meet
          case rel => exact ⟨_, (true), (by first | rfl | (simp; done) | (simp [*]; done)), H', ⟨by first | omega | exact Nat.le_refl _⟩, ⟨by (with_reducible repeat (first | apply Kd.R_alloc | apply Kd.R_drewN | apply Kd.R_drew)); exact HO275.out⟩, ⟨by repeat (first | (with_reducible first | exact HB.out | apply below_alloc | apply pw_below_drewN | apply below_drew1) | exact HB.out)⟩⟩
      · rw [if_neg c11] at H
        have c11b0 : (t276 == t278) = false := beq_eq_false_iff_ne.mpr c11
        have c11b1 : (t276 != t278) = true := bne_iff_ne.mpr c11
        (first | rw [c11b0] | (simp only [i64_w, i32_w]; rw [c11b0]) | skip)
        have H' := Aside0.mk H
        clear H
        go_wp2
        go_meet
        case rel => exact ⟨_, (true), (by first | rfl | (simp; done) | (simp [*]; done)), H', ⟨by first | omega | exact Nat.le_refl _⟩, ⟨by (with_reducible repeat (first | apply Kd.R_alloc | apply Kd.R_drewN | apply Kd.R_drew)); exact HO275.out⟩, ⟨by repeat (first | (with_reducible first | exact HB.out | apply below_alloc | apply pw_below_drewN | apply below_drew1) | exact HB.out)⟩⟩
    case rest =>
      clear HC6
      try clear c1
      try clear c2
      try clear c2b0
      try clear c2b1
      try clear p2
      try clear c3
      try clear c8
      try clear c9
      try clear c10
      try clear c11
      try clear c11b0
      try clear c11b1
      try clear c12
      try clear c12b0
      try clear c12b1
      try clear c13
      try clear c13b0
      obtain ⟨kq, x45_5, rfl, HA, HJ5, HO_3, HB⟩ := hcut
      cases kq with
      | zero => exact absurd HA.out (by simp [laws_FnPackRequest.j0])
      | succ kj5 =>
        have H := HA.out
        clear HA
        simp only [laws_FnPackRequest.j0] at H
        by_cases c14 : x45_5 = true
        · subst c14
          have H1 : (if t276 = t278 then (some (t277 == t279)) else (some false)) = some r := by rw [if_pos rfl] at H; exact H
          clear H
          have H := H1
          clear H1
          by_cases c15 : t276 = t278
          · rw [if_pos c15] at H
            have c15b0 : (t276 == t278) = true := beq_iff_eq.mpr c15
            have c15b1 : (t276 != t278) = false := bne_eq_false_iff_eq.mpr c15
            clear c15
            obtain rfl := Option.some.inj H
            go_wp2
            go_ret
            exact ⟨by first | rfl | (simp [errW_none, errW_some] <;> rfl) | (simp [*, errW_none, errW_some] <;> rfl), by repeat (first | (with_reducible first | exact HB.out | apply below_alloc | apply pw_below_drewN | apply below_drew1) | exact HB.out)⟩
          · rw [if_neg c15] at H
            have c15b0 : (t276 == t278) = false := beq_eq_false_iff_ne.mpr c15
            have c15b1 : (t276 != t278) = true := bne_iff_ne.mpr c15
            obtain rfl := Option.some.inj H
            go_wp2
            go_ret
            exact ⟨by first | rfl | (simp [errW_none, errW_some] <;> rfl) | (simp [*, errW_none, errW_some] <;> rfl), by repeat (first | (with_reducible first | exact HB.out | apply below_alloc | apply pw_below_drewN | apply below_drew1) | exact HB.out)⟩
        · replace c14 := Bool.eq_false_iff.mpr c14
          subst c14
          have H1 : (if 1 ≤ (t273.length : Int) then ((impl_PackRequest.f kj5 (t273.drop 1)).bind fun bt284 => ((some (([] : List (S29)) : List (S29))).bind fun y286 => (if y286.length + t273.length < 2513169434916 then (laws_FnPackRequest.l0 kj5 t276 t277 bt284.1 bt284.2 (y286 ++ t273) 0) else (none)))) else (none)) = some r := by rw [if_neg (show ¬ (false = true) by decide)] at H; exact H
          clear H
          have H := H1
          clear H1
          by_cases c16 : 1 ≤ (t273.length : Int)
          · rw [if_pos c16] at H
            have c16b0 := eq_true c16
            have c16b1 : decide (1 ≤ (t273.length : Int)) = true := decide_eq_true c16
            clear c16
            obtain ⟨y280, hy280⟩ : ∃ y_ : List (S29), y_ = (t273.drop 1) := ⟨_, rfl⟩
            replace H : ((impl_PackRequest.f kj5 y280).bind fun bt284 => ((some (([] : List (S29)) : List (S29))).bind fun y286 => (if y286.length + t273.length < 2513169434916 then (laws_FnPackRequest.l0 kj5 t276 t277 bt284.1 bt284.2 (y286 ++ t273) 0) else (none)))) = some r := by first | (rw [hy280]; with_reducible exact H) | (have H2_ := (Option.bind_some _ _).symm.trans H; rw [hy280]; with_reducible exact H2_) | (have H2_ := (Option.bind_some _ _).symm.trans H; with_reducible exact H2_) | with_reducible exact H | (rw [hy280]; exact H) | exact H
            have Ny280 := Aside0.mk hy280
            clear hy280
            replace H := Option.bind_eq_some_iff.mp H
            obtain ⟨⟨t284, t285⟩, A170, H⟩ := H
            replace H : ((some (([] : List (S29)) : List (S29))).bind fun y286 => (if y286.length + t273.length < 2513169434916 then (laws_FnPackRequest.l0 kj5 t276 t277 t284 t285 (y286 ++ t273) 0) else (none))) = some r := H
            have A17 := Aside0.mk A170
            clear A170
            obtain ⟨y286, hy286⟩ : ∃ y_ : List (S29), y_ = (([] : List (S29))) := ⟨_, rfl⟩
            replace H : (if y286.length + t273.length < 2513169434916 then (laws_FnPackRequest.l0 kj5 t276 t277 t284 t285 (y286 ++ t273) 0) else (none)) = some r := by first | (rw [hy286]; with_reducible exact H) | (have H2_ := (Option.bind_some _ _).symm.trans H; rw [hy286]; with_reducible exact H2_) | (have H2_ := (Option.bind_some _ _).symm.trans H; with_reducible exact H2_) | with_reducible exact H | (rw [hy286]; exact H) | exact H
            have Ny286 := Aside0.mk hy286
            clear hy286
            by_cases c18 : y286.length + t273.length < 2513169434916
            · rw [if_pos c18] at H
              have LMc18 := Aside0.mk c18
              clear c18
              obtain ⟨y289, hy289⟩ : ∃ y_ : List (S29), y_ = (y286 ++ t273) := ⟨_, rfl⟩
              replace H : (laws_FnPackRequest.l0 kj5 t276 t277 t284 t285 y289 0) = some r := by first | (rw [hy289]; with_reducible exact H) | (have H2_ := (Option.bind_some _ _).symm.trans H; rw [hy289]; with_reducible exact H2_) | (have H2_ := (Option.bind_some _ _).symm.trans H; with_reducible exact H2_) | with_reducible exact H | (rw [hy289]; exact H) | exact H
              have Ny289 := Aside0.mk hy289
              clear hy289
              have H' := Aside0.mk H
              clear H
              have q19 : (1 : Int) ≤ ((t273.length : Int) : Int) := of_decide_eq_true (by first | (with_reducible assumption) | assumption)
              obtain ⟨i019, hi019, _, hsz19, _⟩ := info_parts info29
              have hroom19 : t273.length ≤ co8 := (Kd.R_reads' HO_3.out).2.1
              have hC19 : Kd.C k29 _ Ao8 t273.length t273 := (Kd.R_reads' HO_3.out).2.2
              have hcut19 := cut_from (P := Try.prog) 23 29 .i64 Try.underlying23 hi019 9 hsz19 Ao8 t273.length co8 1 (by omega) q19
              have hr19 := Kd.C_drop (m := (1 : Int).toNat) (c := co8) hC19 (by omega) hroom19
              obtain ⟨A19, hA19⟩ : ∃ A1, A1 = (if co8 = (1 : Int).toNat then Ao8 else (Ao8 : Option Addr).map (·.add ((1 : Int).toNat * 9))) := ⟨_, rfl⟩
              obtain ⟨c19, hc19⟩ : ∃ c1, c1 = co8 - (1 : Int).toNat := ⟨_, rfl⟩
              have hy19 : y280.length = t273.length - (1 : Int).toNat := (by rw [Ny280.out, List.length_drop] <;> omega)
              rw [show (t273).drop (1 : Int).toNat = y280 from Ny280.out.symm] at hr19
              replace hr19 : Kd.C k29 _ A19 y280.length y280 := (by rw [hA19]; exact hr19)
              rw [← hy19, ← hA19, ← hc19] at hcut19
              have HR283 := Aside0.mk hr19
              have HC283 := Aside0.mk (show y280.length ≤ c19 from by rw [hy19, hc19]; exact Nat.sub_le_sub_right hroom19 _)
              clear hr19 hC19 hroom19 hi019 hsz19 hc19
              have KY19 := Aside0.mk hy19
              have KA19 := Aside0.mk hA19
              clear hy19 hA19
              have KL19 := Aside0.mk (show 1 ≤ t273.length from by omega)
              replace q19 := eq_true q19
              go_wp2_with (first | ((with_reducible refine gate_callee (f := 9) rfl ?_); refine goesL_ (some 57) rfl rfl Try.func9 (by kernel_rfl) rfl #[.slice A19 y280.length c19] rfl (by (try simp only [List.map_toArray, List.map_cons, List.map_nil]); first | done | rfl | (simp only [List.length_drop, List.length_take]; rfl)) ?_; (with_reducible refine (impl_PackRequest.calls kj5 _ _ y280 t284 t285 _ ?side1 ?side2 A17.out).mono ?_); (case side1 => repeat (first | exact (by repeat (first | (with_reducible exact HR283.out) | (with_reducible refine Kd.C_alloc ?_ _) | (with_reducible refine Kd.C_drewN ?_ _) | (with_reducible refine Kd.C_drew ?_) | exact HR283.out)) | (with_reducible refine Kd.C_alloc ?_ _) | (with_reducible refine Kd.C_drewN ?_ _) | (with_reducible refine Kd.C_drew ?_))); (case side2 => exact HC283.out); rintro e w20 ⟨rfl, hb⟩; refine ⟨_, rfl, ?_⟩; have n0_ := Aside0.mk (Kd.R_below (by (with_reducible repeat (first | apply Kd.R_alloc | apply Kd.R_drewN | apply Kd.R_drew)); exact HO_3.out) hb); have n1_ := Aside0.mk (Kd.C_below (by repeat (first | (with_reducible exact HR283.out) | (with_reducible refine Kd.C_alloc ?_ _) | (with_reducible refine Kd.C_drewN ?_ _) | (with_reducible refine Kd.C_drew ?_) | exact HR283.out)) hb); have n2_ := Aside0.mk (below_step (by repeat (first | (with_reducible first | exact HB.out | apply below_alloc | apply pw_below_drewN | apply below_drew1) | exact HB.out)) hb); clear HO_3; clear HR283; clear HB; have HO_3 := n0_; have HR283 := n1_; have HB := n2_; clear n0_ n1_ n2_; (try clear hb); (try clear hb2); (try clear hk); (try clear hi)) | ((with_reducible refine gate_dst (N := 60) rfl ?_); (try (refine gate_guard (by rfl) ?_; dsimp only)); refine Kd.R_lit k29 _ 29 ?hg (N := 60) ?hd (xs := ([] : List (S29))) (inner := []) (ok := fun _ => True) (okp := fun _ => True) ?hr ?hp (fun _ hk => hk) trivial (Below.refl _ _) (Nat.le_refl _) (by simp) ?_; (case hd => rfl); (case hg => rfl); (case hr => first | (go_simp; done) | (go_simp; rfl)); (case hp => exact (Reps.none _ _)); intro v287 w21 ho22 hb hg_ hnew_; clear hg_ hnew_; (first | rw [← Ny286.out] at ho22 | (simp only [Int.reduceToNat] at ho22; rw [← Ny286.out] at ho22)); have n0_ := Aside0.mk (Kd.R_elder' (by (with_reducible repeat (first | apply Kd.R_alloc | apply Kd.R_drewN | apply Kd.R_drew)); exact HO_3.out) (Kd.R_base ho22) hb); have n1_ := Aside0.mk (Kd.R_lower (Kd.R_new' ho22 (Kd.R_lt (by (with_reducible repeat (first | apply Kd.R_alloc | apply Kd.R_drewN | apply Kd.R_drew)); exact HO_3.out))) (below_size (by repeat (first | (with_reducible first | exact HB.out | apply below_alloc | apply pw_below_drewN | apply below_drew1) | exact HB.out)))); have n2_ := Aside0.mk (Kd.C_below (by repeat (first | (with_reducible exact HR283.out) | (with_reducible refine Kd.C_alloc ?_ _) | (with_reducible refine Kd.C_drewN ?_ _) | (with_reducible refine Kd.C_drew ?_) | exact HR283.out)) hb); have n3_ := Aside0.mk (below_step (by repeat (first | (with_reducible first | exact HB.out | apply below_alloc | apply pw_below_drewN | apply below_drew1) | exact HB.out)) hb); clear HO_3; clear HR283; clear HB; have HO_3 := n0_; have HO288 := n1_; have HR283 := n2_; have HB := n3_; clear n0_ n1_ n2_ n3_; clear hb ho22) | ((with_reducible refine gate_builtin (b := .append) (xs := #[.tmp 60, .tmp 61]) rfl ?_); (try (refine gate_guard (by rfl) ?_; dsimp only)); at_builtin; refine Kd.R_append_rows k29 (w0 := w) w.heap.size rfl (.tmp 60) (.tmp 61) 23 29 (.agg #[(.int .i64 0), (.int .i64 0), (.int .i64 0), (.bool false), (.bool false), (.bool false), (.int .i64 0), (.int .i64 0), (.int .i64 0)]) 56 rfl Try.underlying23 info29 rfl (by decide) (by omega) v287 y286 t273 _ _ _ (fun k_ => some k_ ≠ (.slice Ao8 t273.length co8 : Value).ownBlock) (fun _ => False) rfl rfl ?aO ?aR (fun _ _ h => h) (fun _ h => h.elim) ?aF ?aB ?aS ?aL ?_; (case aR => repeat (first | exact (Kd.R_reads' HO_3.out).2.2 | (with_reducible refine Kd.C_alloc ?_ _) | (with_reducible refine Kd.C_drewN ?_ _) | (with_reducible refine Kd.C_drew ?_))); (case aB => exact (by repeat (first | (with_reducible first | exact HB.out | apply below_alloc | apply pw_below_drewN | apply below_drew1) | exact HB.out))); (case aF => exact (fun k_ hk => Kd.fresh' (Kd.R_lt (by (with_reducible repeat (first | apply Kd.R_alloc | apply Kd.R_drewN | apply Kd.R_drew)); exact HO_3.out)) k_ hk)); (case aO => exact (by (with_reducible repeat (first | apply Kd.R_alloc | apply Kd.R_drewN | apply Kd.R_drew)); exact Kd.R_mono HO288.out (fun _ hk => hk.2))); (case aS => exact (below_size (by repeat (first | (with_reducible first | exact HB.out | apply below_alloc | apply pw_below_drewN | apply below_drew1) | exact HB.out)))); (case aL => have := LMc18.out; omega); intro v290 w23 ho hb hg hat; rw [← Ny289.out] at ho; have n0_ := Aside0.mk (Kd.R_after (ok := (fun _ => True)) (by (with_reducible repeat (first | apply Kd.R_alloc | apply Kd.R_drewN | apply Kd.R_drew)); exact HO_3.out) hg hat); have n1_ := Aside0.mk (hb); have n2_ := Aside0.mk ((show Kd.C k29 w23 A19 y280.length y280 from by rw [Ny280.out, KA19.out]; exact Kd.C_drop (m := 1) (c := co8) ((Kd.R_reads' (Kd.R_after (ok := (fun _ => True)) (by (with_reducible repeat (first | apply Kd.R_alloc | apply Kd.R_drewN | apply Kd.R_drew)); exact HO_3.out) hg hat)).2.2) KL19.out ((Kd.R_reads' (Kd.R_after (ok := (fun _ => True)) (by (with_reducible repeat (first | apply Kd.R_alloc | apply Kd.R_drewN | apply Kd.R_drew)); exact HO_3.out) hg hat)).2.1))); have n3_ := Aside0.mk (ho); clear HO_3; clear HB; clear HR283; clear HO288; have HO_3 := n0_; have HB := n1_; have HR283 := n2_; have HO291 := n3_; clear n0_ n1_ n2_ n3_; clear ho hb hg hat))
              go_loopg [11] kj5 (fun kq v11 w' => ∃ (x10_2 : List (S29)) (x11_2 : Int), v11 = .int .i64 x11_2 ∧ Aside0 (laws_FnPackRequest.l0 kq t276 t277 t284 t285 x10_2 x11_2 = some r) ∧ Aside0 (kq ≤ kj5) ∧ Aside0 (Kd.R k29 29 w' w.heap.size (fun _ => True) v290 x10_2) ∧ Aside0 (Below w.heap.size w w'))
              case atStart => exact ⟨(y289), (0), (by first | rfl | (simp; done) | (simp [*]; done)), H', ⟨Nat.le_refl _⟩, ⟨by (with_reducible repeat (first | apply Kd.R_alloc | apply Kd.R_drewN | apply Kd.R_drew)); exact Kd.R_mono HO291.out (fun _ hk => trivial)⟩, ⟨by repeat (first | (with_reducible first | exact HB.out | apply below_alloc | apply pw_below_drewN | apply below_drew1) | exact HB.out)⟩⟩
              case round =>
                clear H'
                try clear c1
                try clear q1
                try clear c2
                try clear c2b0
                try clear c2b1
                try clear p2
                try clear c3
                try clear c8
                try clear c9
                try clear c10
                try clear c11
                try clear c11b0
                try clear c11b1
                try clear c12
                try clear c12b0
                try clear c12b1
                try clear c13
                try clear c13b0
                try clear c14
                try clear c15
                try clear c15b0
                try clear c15b1
                try clear c16
                try clear c16b0
                try clear c16b1
                try clear c18
                try clear c19
                try clear q19
                try clear p2
                try clear q19
                obtain ⟨x10_2, x11_2, rfl, HA, HK2, HO_10, HB⟩ := hrel
                cases gk with
                | zero => exact absurd HA.out (by simp [laws_FnPackRequest.l0])
                | succ k2 =>
                  have H := HA.out
                  clear HA
                  simp only [laws_FnPackRequest.l0] at H
                  by_cases c24 : x11_2 < (x10_2.length : Int)
                  · rw [if_pos c24] at H
                    have c24b0 : decide (x11_2 < (x10_2.length : Int)) = true := decide_eq_true c24
                    clear c24
                    obtain ⟨y292, hy292⟩ : ∃ y_ : List Int, y_ = (([1, 0, 3, 2] : List Int)) := ⟨_, rfl⟩
                    replace H : (if 0 ≤ x11_2 then (if 0 ≤ ((rd_T29 x10_2 x11_2).f2) then (if ((rd_T29 x10_2 x11_2).f2) < (y292.length : Int) then (laws_FnPackRequest.l0 k2 t276 t277 t284 t285 (x10_2.set (x11_2 : Int).toNat (⟨(rd_T29 x10_2 x11_2).f0, (rd_T29 x10_2 x11_2).f1, rd y292 ((rd_T29 x10_2 x11_2).f2), (rd_T29 x10_2 x11_2).f3, (rd_T29 x10_2 x11_2).f4, (rd_T29 x10_2 x11_2).f5, (rd_T29 x10_2 x11_2).f6, (rd_T29 x10_2 x11_2).f7, (rd_T29 x10_2 x11_2).f8⟩ : S29)) (wrap64 (x11_2 + 1))) else (none)) else (none)) else (none)) = some r := by first | (rw [hy292]; with_reducible exact H) | (have H2_ := (Option.bind_some _ _).symm.trans H; rw [hy292]; with_reducible exact H2_) | (have H2_ := (Option.bind_some _ _).symm.trans H; with_reducible exact H2_) | with_reducible exact H | (rw [hy292]; exact H) | exact H
                    have Ny292 := Aside0.mk hy292
                    clear hy292
                    by_cases c25 : 0 ≤ x11_2
                    · rw [if_pos c25] at H
                      have c25b0 : decide (0 ≤ x11_2) = true := decide_eq_true c25
                      clear c25
                      by_cases c26 : 0 ≤ ((rd_T29 x10_2 x11_2).f2)
                      · rw [if_pos c26] at H
                        have c26b0 : decide (0 ≤ ((rd_T29 x10_2 x11_2).f2)) = true := decide_eq_true c26
                        clear c26
                        by_cases c27 : ((rd_T29 x10_2 x11_2).f2) < (y292.length : Int)
                        · rw [if_pos c27] at H
                          have c27b0 : decide (((rd_T29 x10_2 x11_2).f2) < (y292.length : Int)) = true := decide_eq_true c27
                          clear c27
                          obtain ⟨y297, hy297⟩ : ∃ y_ : List (S29), y_ = (x10_2.set (x11_2 : Int).toNat (⟨(rd_T29 x10_2 x11_2).f0, (rd_T29 x10_2 x11_2).f1, rd y292 ((rd_T29 x10_2 x11_2).f2), (rd_T29 x10_2 x11_2).f3, (rd_T29 x10_2 x11_2).f4, (rd_T29 x10_2 x11_2).f5, (rd_T29 x10_2 x11_2).f6, (rd_T29 x10_2 x11_2).f7, (rd_T29 x10_2 x11_2).f8⟩ : S29)) := ⟨_, rfl⟩
                          replace H : (laws_FnPackRequest.l0 k2 t276 t277 t284 t285 y297 (wrap64 (x11_2 + 1))) = some r := by first | (rw [hy297]; with_reducible exact H) | (have H2_ := (Option.bind_some _ _).symm.trans H; rw [hy297]; with_reducible exact H2_) | (have H2_ := (Option.bind_some _ _).symm.trans H; with_reducible exact H2_) | with_reducible exact H | (rw [hy297]; exact H) | exact H
                          have Ny297 := Aside0.mk hy297
                          clear hy297
                          have H' := Aside0.mk H
                          clear H
                          obtain ⟨Ao29, co29, eo29⟩ := Kd.R_slice HO_10.out
                          subst eo29
                          go_wp2_with (first | ((with_reducible refine gate_dst (N := 71) rfl ?_); (try (refine gate_guard (by rfl) ?_; dsimp only)); refine Kd.R_lit (Kd.int .i64) _ 3 ?hg (N := 71) ?hd (xs := ([1, 0, 3, 2] : List Int)) (inner := [.int .i64 1, .int .i64 0, .int .i64 3, .int .i64 2]) (ok := fun _ => True) (okp := fun _ => True) ?hr ?hp (fun _ hk => hk) trivial (Below.refl _ _) (Nat.le_refl _) (by simp) ?_; (case hd => rfl); (case hg => rfl); (case hr => first | (go_simp; done) | (go_simp; rfl)); (case hp => exact (Reps.one (show Kd.M (Kd.int .i64) _ _ _ 1 [.int .i64 1] from rfl) (Reps.one (show Kd.M (Kd.int .i64) _ _ _ 0 [.int .i64 0] from rfl) (Reps.one (show Kd.M (Kd.int .i64) _ _ _ 3 [.int .i64 3] from rfl) (Reps.one (show Kd.M (Kd.int .i64) _ _ _ 2 [.int .i64 2] from rfl) (Reps.none _ _)))))); intro v293 w30 ho31 hb hg_ hnew_; clear hg_ hnew_; (first | rw [← Ny292.out] at ho31 | (simp only [Int.reduceToNat] at ho31; rw [← Ny292.out] at ho31)); have n0_ := Aside0.mk (Kd.R_below (by (with_reducible repeat (first | apply Kd.R_alloc | apply Kd.R_drewN | apply Kd.R_drew)); exact HO_10.out) hb); have n1_ := Aside0.mk (Kd.R_lower ho31 (below_size (by repeat (first | (with_reducible first | exact HB.out | apply below_alloc | apply pw_below_drewN | apply below_drew1) | exact HB.out)))); have n2_ := Aside0.mk (below_step (by repeat (first | (with_reducible first | exact HB.out | apply below_alloc | apply pw_below_drewN | apply below_drew1) | exact HB.out)) hb); clear HO_10; clear HB; have HO_10 := n0_; have HO294 := n1_; have HB := n2_; clear n0_ n1_ n2_; clear hb ho31; have p295 : 0 ≤ (x11_2 : Int) := of_decide_eq_true (by first | (with_reducible assumption) | assumption); have q295 : x11_2 < (x10_2.length : Int) := of_decide_eq_true (by first | (with_reducible assumption) | assumption); obtain ⟨ad295, e295, hx295_0, hx295_1, hx295_2, hx295_3, hx295_4, hx295_5, hx295_6, hx295_7, hx295_8⟩ := at_T29 (Kd.R_reads' HO_10.out).2.2 x11_2 p295 q295; cases e295; replace p295 := eq_true p295; replace q295 := eq_true q295; obtain ⟨Ao32, co32, eo32⟩ := Kd.R_slice HO294.out; subst eo32; have p296 : 0 ≤ (((rd_T29 x10_2 x11_2).f2) : Int) := of_decide_eq_true (by first | (with_reducible assumption) | assumption); have q296 : ((rd_T29 x10_2 x11_2).f2) < (y292.length : Int) := of_decide_eq_true (by first | (with_reducible assumption) | assumption); obtain ⟨ad296, e296, hx296_0⟩ := Kd.at_int (Kd.R_reads' HO294.out).2.2 ((rd_T29 x10_2 x11_2).f2) p296 q296; cases e296; replace p296 := eq_true p296; replace q296 := eq_true q296; have p28 : 0 ≤ (x11_2 : Int) := of_decide_eq_true (by first | (with_reducible assumption) | assumption); have q28 : (x11_2 : Int) < ((x10_2.length : Int) : Int) := of_decide_eq_true (by first | (with_reducible assumption) | assumption); obtain ⟨go28, co28, eo28, gb28, gl28, cl28, HG28⟩ := Kd.R_form HO_10.out (by omega); (first | cases eo28 | (injection eo28 with ea_ en_ ec_; (first | subst ea_ | (injection ea_ with ea_; subst ea_)); subst ec_; clear en_)); have GB28 := Aside0.mk gb28; have GG28 := Aside0.mk HG28; clear gb28 gl28 HG28; (first | simp only [add_plain] at hx295_0 | skip); (first | simp only [add_plain] at hx295_1 | skip); (first | simp only [add_plain] at hx295_2 | skip); (first | simp only [add_plain] at hx295_3 | skip); (first | simp only [add_plain] at hx295_4 | skip); (first | simp only [add_plain] at hx295_5 | skip); (first | simp only [add_plain] at hx295_6 | skip); (first | simp only [add_plain] at hx295_7 | skip); (first | simp only [add_plain] at hx295_8 | skip); obtain ⟨ce28, hcl28, hM28, hcc28, hfr28⟩ := Kd.R_elem HO_10.out z29 (x11_2 : Int) p28 q28; obtain rfl := k29_openM hM28; have hx28_0 : w30.cell? ⟨go28, (x11_2 : Int).toNat * 9, none⟩ = some (.int .i64 ((rd_T29 x10_2 x11_2).f0)) := hcc28 0 _ rfl; have hx28_1 : w30.cell? ⟨go28, (x11_2 : Int).toNat * 9 + 1, none⟩ = some (.int .i64 ((rd_T29 x10_2 x11_2).f1)) := hcc28 1 _ rfl; have hx28_2 : w30.cell? ⟨go28, (x11_2 : Int).toNat * 9 + 2, none⟩ = some (.int .i64 ((rd_T29 x10_2 x11_2).f2)) := hcc28 2 _ rfl; have hx28_3 : w30.cell? ⟨go28, (x11_2 : Int).toNat * 9 + 3, none⟩ = some (.bool ((rd_T29 x10_2 x11_2).f3)) := hcc28 3 _ rfl; have hx28_4 : w30.cell? ⟨go28, (x11_2 : Int).toNat * 9 + 4, none⟩ = some (.bool ((rd_T29 x10_2 x11_2).f4)) := hcc28 4 _ rfl; have hx28_5 : w30.cell? ⟨go28, (x11_2 : Int).toNat * 9 + 5, none⟩ = some (.bool ((rd_T29 x10_2 x11_2).f5)) := hcc28 5 _ rfl; have hx28_6 : w30.cell? ⟨go28, (x11_2 : Int).toNat * 9 + 6, none⟩ = some (.int .i64 ((rd_T29 x10_2 x11_2).f6)) := hcc28 6 _ rfl; have hx28_7 : w30.cell? ⟨go28, (x11_2 : Int).toNat * 9 + 7, none⟩ = some (.int .i64 ((rd_T29 x10_2 x11_2).f7)) := hcc28 7 _ rfl; have hx28_8 : w30.cell? ⟨go28, (x11_2 : Int).toNat * 9 + 8, none⟩ = some (.int .i64 ((rd_T29 x10_2 x11_2).f8)) := hcc28 8 _ rfl; have hf28_0 : w30.frozen? ⟨go28, (x11_2 : Int).toNat * 9, none⟩ = false := hfr28 0; have hf28_1 : w30.frozen? ⟨go28, (x11_2 : Int).toNat * 9 + 1, none⟩ = false := hfr28 1; have hf28_2 : w30.frozen? ⟨go28, (x11_2 : Int).toNat * 9 + 2, none⟩ = false := hfr28 2; have hf28_3 : w30.frozen? ⟨go28, (x11_2 : Int).toNat * 9 + 3, none⟩ = false := hfr28 3; have hf28_4 : w30.frozen? ⟨go28, (x11_2 : Int).toNat * 9 + 4, none⟩ = false := hfr28 4; have hf28_5 : w30.frozen? ⟨go28, (x11_2 : Int).toNat * 9 + 5, none⟩ = false := hfr28 5; have hf28_6 : w30.frozen? ⟨go28, (x11_2 : Int).toNat * 9 + 6, none⟩ = false := hfr28 6; have hf28_7 : w30.frozen? ⟨go28, (x11_2 : Int).toNat * 9 + 7, none⟩ = false := hfr28 7; have hf28_8 : w30.frozen? ⟨go28, (x11_2 : Int).toNat * 9 + 8, none⟩ = false := hfr28 8; clear hcl28 hcc28 hfr28 hM28; replace p28 := eq_true p28; replace q28 := eq_true q28; have HX33 := Aside0.mk (show Kd.R k29 29 w30 w.heap.size (fun _ => True) (.slice (some ⟨go28, 0, none⟩) x10_2.length co29) x10_2 from (by (with_reducible repeat (first | apply Kd.R_alloc | apply Kd.R_drewN | apply Kd.R_drew)); exact HO_10.out)); obtain ⟨ce33, hcl33, hM33, hcc33, hfr33⟩ := Kd.R_elem HX33.out z29 (x11_2 : Int) (of_decide_eq_true (by first | (with_reducible assumption) | assumption)) (by have h_ : (x11_2 : Int) < ((x10_2.length : Int) : Int) := of_decide_eq_true (by first | (with_reducible assumption) | assumption); first | exact h_ | (have e_ := (Kd.R_reads' HO_10.out).1; omega) | simpa using h_); obtain rfl := k29_openM hM33; have HP33 := Kd.R_seg HX33.out (x11_2 : Int) (of_decide_eq_true (by first | (with_reducible assumption) | assumption)) (by have h_ : (x11_2 : Int) < ((x10_2.length : Int) : Int) := of_decide_eq_true (by first | (with_reducible assumption) | assumption); first | exact h_ | (have e_ := (Kd.R_reads' HO_10.out).1; omega) | simpa using h_) (seg := [.int .i64 (rd y292 ((rd_T29 x10_2 x11_2).f2))]) (j := 2) hcl33 hcc33 (show 3 ≤ 9 from by decide) (x' := (⟨(rd_T29 x10_2 x11_2).f0, (rd_T29 x10_2 x11_2).f1, rd y292 ((rd_T29 x10_2 x11_2).f2), (rd_T29 x10_2 x11_2).f3, (rd_T29 x10_2 x11_2).f4, (rd_T29 x10_2 x11_2).f5, (rd_T29 x10_2 x11_2).f6, (rd_T29 x10_2 x11_2).f7, (rd_T29 x10_2 x11_2).f8⟩ : S29)) (k29_mkM _ _ _ (⟨(rd_T29 x10_2 x11_2).f0, (rd_T29 x10_2 x11_2).f1, rd y292 ((rd_T29 x10_2 x11_2).f2), (rd_T29 x10_2 x11_2).f3, (rd_T29 x10_2 x11_2).f4, (rd_T29 x10_2 x11_2).f5, (rd_T29 x10_2 x11_2).f6, (rd_T29 x10_2 x11_2).f7, (rd_T29 x10_2 x11_2).f8⟩ : S29) ) (fun _ hk => hk); have hx33_2 := hcc33 2 _ rfl; (try simp only [show (k29).sz = 9 from rfl, Nat.mul_one, Nat.add_zero] at hx33_2); have hf33_2 := hfr33 2; (try simp only [show (k29).sz = 9 from rfl, Nat.mul_one, Nat.add_zero] at hf33_2); clear hcl33 hcc33 hfr33 hM33) | ((with_reducible refine gate_store (t := 3) (p := 80) rfl ?_); refine store_event (t := 3) (p := 80) (v := ?vo_w34) (w1 := (w30.setCell ⟨go28, (x11_2 : Int).toNat * 9 + 2, none⟩ (.int .i64 (rd y292 ((rd_T29 x10_2 x11_2).f2))))) ?hg ?ho ?hn ?hr ?_; (case ho => rfl); (case hg => rfl); (case hn => rfl); (case hr => first | (go_simp; done) | (go_simp; rfl)); intro w34 hw; have hg : w30.grownBy w34 (some go28) := (by rw [hw]; exact HP33.2); have hp_ : Kd.R k29 29 w34 w.heap.size (fun _ => True) (.slice (some ⟨go28, 0, none⟩) x10_2.length co29) y297 := (by rw [hw, Ny297.out]; exact HP33.1); clear HP33; have n0_ := Aside0.mk (hp_); have n1_ := Aside0.mk (Kd.R_over' (v := (.slice (some ⟨go28, 0, none⟩) x10_2.length co29)) (by (with_reducible repeat (first | apply Kd.R_alloc | apply Kd.R_drewN | apply Kd.R_drew)); exact HO294.out) (Kd.R_typed HO_10.out) (by decide) hg); have n2_ := Aside0.mk ((by rw [hw]; exact below_set (HB.out) GB28.out : Below w.heap.size w w34)); clear HO_10; clear HO294; clear HB; have HO_10 := n0_; have HO294 := n1_; have HB := n2_; clear n0_ n1_ n2_; clear hg hw hp_))
                          go_roundg k2
                          case measure => have := HJ5.out; have := HK2.out; omega
                          case rel => exact ⟨(y297), (wrap64 (x11_2 + 1)), (by first | rfl | (simp; done) | (simp [*]; done)), H', ⟨by have := HJ5.out; have := HK2.out; omega⟩, ⟨by (with_reducible repeat (first | apply Kd.R_alloc | apply Kd.R_drewN | apply Kd.R_drew)); exact HO_10.out⟩, ⟨by repeat (first | (with_reducible first | exact HB.out | apply below_alloc | apply pw_below_drewN | apply below_drew1) | exact HB.out)⟩⟩
                        · rw [if_neg c27] at H
                          exact absurd H (by simp)
                      · rw [if_neg c26] at H
                        exact absurd H (by simp)
                    · rw [if_neg c25] at H
                      exact absurd H (by simp)
                  · rw [if_neg c24] at H
                    have c24b0 : decide (x11_2 < (x10_2.length : Int)) = false := decide_eq_false c24
                    clear c24
                    replace H := Option.bind_eq_some_iff.mp H
                    obtain ⟨⟨t298, t299⟩, A350, H⟩ := H
                    replace H : (if t284 ≤ t276 then (if t285 ≤ t277 then (if t298 = t276 then (some (t299 == t277)) else (some false)) else (some false)) else (some false)) = some r := H
                    have A35 := Aside0.mk A350
                    clear A350
                    by_cases c36 : t284 ≤ t276
                    · rw [if_pos c36] at H
                      have c36b0 : decide (t284 ≤ t276) = true := decide_eq_true c36
                      clear c36
                      by_cases c37 : t285 ≤ t277
                      · rw [if_pos c37] at H
                        have c37b0 : decide (t285 ≤ t277) = true := decide_eq_true c37
                        clear c37
                        by_cases c38 : t298 = t276
                        · rw [if_pos c38] at H
                          have c38b0 : (t298 == t276) = true := beq_iff_eq.mpr c38
                          have c38b1 : (t298 != t276) = false := bne_eq_false_iff_eq.mpr c38
                          clear c38
                          obtain rfl := Option.some.inj H
                          obtain ⟨Ao39, co39, eo39⟩ := Kd.R_slice HO_10.out
                          subst eo39
                          go_wp2_with (first | ((with_reducible refine gate_callee (f := 9) rfl ?_); refine goesL_ (some 83) rfl rfl Try.func9 (by kernel_rfl) rfl #[.slice Ao39 x10_2.length co39] rfl (by (try simp only [List.map_toArray, List.map_cons, List.map_nil]); first | done | rfl | (simp only [List.length_drop, List.length_take]; rfl)) ?_; (with_reducible refine (impl_PackRequest.calls k2 _ _ x10_2 t298 t299 _ ?side1 ?side2 A35.out).mono ?_); (case side1 => repeat (first | exact (Kd.R_reads' HO_10.out).2.2 | (with_reducible refine Kd.C_alloc ?_ _) | (with_reducible refine Kd.C_drewN ?_ _) | (with_reducible refine Kd.C_drew ?_))); (case side2 => exact (Kd.R_reads' HO_10.out).2.1); rintro e w40 ⟨rfl, hb⟩; refine ⟨_, rfl, ?_⟩; have n0_ := Aside0.mk (Kd.R_below (by (with_reducible repeat (first | apply Kd.R_alloc | apply Kd.R_drewN | apply Kd.R_drew)); exact HO_10.out) hb); have n1_ := Aside0.mk (below_step (by repeat (first | (with_reducible first | exact HB.out | apply below_alloc | apply pw_below_drewN | apply below_drew1) | exact HB.out)) hb); clear HO_10; clear HB; have HO_10 := n0_; have HB := n1_; clear n0_ n1_; (try clear hb); (try clear hb2); (try clear hk); (try clear hi)))
                          go_ret
                          exact ⟨by first | rfl | (simp [errW_none, errW_some] <;> rfl) | (simp [*, errW_none, errW_some] <;> rfl), by repeat (first | (with_reducible first | exact HB.out | apply below_alloc | apply pw_below_drewN | apply below_drew1) | exact HB.out)⟩
                        · rw [if_neg c38] at H
                          have c38b0 : (t298 == t276) = false := beq_eq_false_iff_ne.mpr c38
                          have c38b1 : (t298 != t276) = true := bne_iff_ne.mpr c38
                          obtain rfl := Option.some.inj H
                          obtain ⟨Ao41, co41, eo41⟩ := Kd.R_slice HO_10.out
                          subst eo41
                          go_wp2_with (first | ((with_reducible refine gate_callee (f := 9) rfl ?_); refine goesL_ (some 83) rfl rfl Try.func9 (by kernel_rfl) rfl #[.slice Ao41 x10_2.length co41] rfl (by (try simp only [List.map_toArray, List.map_cons, List.map_nil]); first | done | rfl | (simp only [List.length_drop, List.length_take]; rfl)) ?_; (with_reducible refine (impl_PackRequest.calls k2 _ _ x10_2 t298 t299 _ ?side1 ?side2 A35.out).mono ?_); (case side1 => repeat (first | exact (Kd.R_reads' HO_10.out).2.2 | (with_reducible refine Kd.C_alloc ?_ _) | (with_reducible refine Kd.C_drewN ?_ _) | (with_reducible refine Kd.C_drew ?_))); (case side2 => exact (Kd.R_reads' HO_10.out).2.1); rintro e w42 ⟨rfl, hb⟩; refine ⟨_, rfl, ?_⟩; have n0_ := Aside0.mk (Kd.R_below (by (with_reducible repeat (first | apply Kd.R_alloc | apply Kd.R_drewN | apply Kd.R_drew)); exact HO_10.out) hb); have n1_ := Aside0.mk (below_step (by repeat (first | (with_reducible first | exact HB.out | apply below_alloc | apply pw_below_drewN | apply below_drew1) | exact HB.out)) hb); clear HO_10; clear HB; have HO_10 := n0_; have HB := n1_; clear n0_ n1_; (try clear hb); (try clear hb2); (try clear hk); (try clear hi)))
                          go_ret
                          exact ⟨by first | rfl | (simp [errW_none, errW_some] <;> rfl) | (simp [*, errW_none, errW_some] <;> rfl), by repeat (first | (with_reducible first | exact HB.out | apply below_alloc | apply pw_below_drewN | apply below_drew1) | exact HB.out)⟩
                      · rw [if_neg c37] at H
                        have c37b0 : decide (t285 ≤ t277) = false := decide_eq_false c37
                        clear c37
                        obtain rfl := Option.some.inj H
                        obtain ⟨Ao43, co43, eo43⟩ := Kd.R_slice HO_10.out
                        subst eo43
                        go_wp2_with (first | ((with_reducible refine gate_callee (f := 9) rfl ?_); refine goesL_ (some 83) rfl rfl Try.func9 (by kernel_rfl) rfl #[.slice Ao43 x10_2.length co43] rfl (by (try simp only [List.map_toArray, List.map_cons, List.map_nil]); first | done | rfl | (simp only [List.length_drop, List.length_take]; rfl)) ?_; (with_reducible refine (impl_PackRequest.calls k2 _ _ x10_2 t298 t299 _ ?side1 ?side2 A35.out).mono ?_); (case side1 => repeat (first | exact (Kd.R_reads' HO_10.out).2.2 | (with_reducible refine Kd.C_alloc ?_ _) | (with_reducible refine Kd.C_drewN ?_ _) | (with_reducible refine Kd.C_drew ?_))); (case side2 => exact (Kd.R_reads' HO_10.out).2.1); rintro e w44 ⟨rfl, hb⟩; refine ⟨_, rfl, ?_⟩; have n0_ := Aside0.mk (Kd.R_below (by (with_reducible repeat (first | apply Kd.R_alloc | apply Kd.R_drewN | apply Kd.R_drew)); exact HO_10.out) hb); have n1_ := Aside0.mk (below_step (by repeat (first | (with_reducible first | exact HB.out | apply below_alloc | apply pw_below_drewN | apply below_drew1) | exact HB.out)) hb); clear HO_10; clear HB; have HO_10 := n0_; have HB := n1_; clear n0_ n1_; (try clear hb); (try clear hb2); (try clear hk); (try clear hi)))
                        go_ret
                        exact ⟨by first | rfl | (simp [errW_none, errW_some] <;> rfl) | (simp [*, errW_none, errW_some] <;> rfl), by repeat (first | (with_reducible first | exact HB.out | apply below_alloc | apply pw_below_drewN | apply below_drew1) | exact HB.out)⟩
                    · rw [if_neg c36] at H
                      have c36b0 : decide (t284 ≤ t276) = false := decide_eq_false c36
                      clear c36
                      obtain rfl := Option.some.inj H
                      obtain ⟨Ao45, co45, eo45⟩ := Kd.R_slice HO_10.out
                      subst eo45
                      go_wp2_with (first | ((with_reducible refine gate_callee (f := 9) rfl ?_); refine goesL_ (some 83) rfl rfl Try.func9 (by kernel_rfl) rfl #[.slice Ao45 x10_2.length co45] rfl (by (try simp only [List.map_toArray, List.map_cons, List.map_nil]); first | done | rfl | (simp only [List.length_drop, List.length_take]; rfl)) ?_; (with_reducible refine (impl_PackRequest.calls k2 _ _ x10_2 t298 t299 _ ?side1 ?side2 A35.out).mono ?_); (case side1 => repeat (first | exact (Kd.R_reads' HO_10.out).2.2 | (with_reducible refine Kd.C_alloc ?_ _) | (with_reducible refine Kd.C_drewN ?_ _) | (with_reducible refine Kd.C_drew ?_))); (case side2 => exact (Kd.R_reads' HO_10.out).2.1); rintro e w46 ⟨rfl, hb⟩; refine ⟨_, rfl, ?_⟩; have n0_ := Aside0.mk (Kd.R_below (by (with_reducible repeat (first | apply Kd.R_alloc | apply Kd.R_drewN | apply Kd.R_drew)); exact HO_10.out) hb); have n1_ := Aside0.mk (below_step (by repeat (first | (with_reducible first | exact HB.out | apply below_alloc | apply pw_below_drewN | apply below_drew1) | exact HB.out)) hb); clear HO_10; clear HB; have HO_10 := n0_; have HB := n1_; clear n0_ n1_; (try clear hb); (try clear hb2); (try clear hk); (try clear hi)))
                      go_ret
                      exact ⟨by first | rfl | (simp [errW_none, errW_some] <;> rfl) | (simp [*, errW_none, errW_some] <;> rfl), by repeat (first | (with_reducible first | exact HB.out | apply below_alloc | apply pw_below_drewN | apply below_drew1) | exact HB.out)⟩
            · rw [if_neg c18] at H
              exact absurd H (by simp)
          · rw [if_neg c16] at H
            exact absurd H (by simp)

/-- THE ONE PURE STATEMENT of laws_FnPackRequest: yours. -/
def laws_FnPackRequest.Pure : Prop := ∀ (l0 : List Int), l0.length ≤ maxLen → l0.length * 1 ≤ 140737488351232 → (∀ x ∈ l0, (Lit.int .u8 x).wf = true) → ∃ k, laws_FnPackRequest.f k l0 = some true
theorem laws_FnPackRequest.walk (P : laws_FnPackRequest.Pure) (a0 : Option Addr) (len0 cap0 : Nat) (z0 : List Int) (w : World) (w0 : (a0 = none ∧ len0 = 0 ∧ cap0 = 0 ∧ z0 = []) ∨ ∃ x, a0 = some x ∧ len0 ≤ cap0 ∧ cap0 ≤ maxLen ∧ z0.length = cap0 ∧ (∀ i, i < z0.length → w.cell? (x.add i) = some (.int .u8 (z0.getD i 0))) ∧ ∀ n ∈ z0, (Lit.int .u8 n).wf = true) (y0 : len0 * 1 ≤ 140737488351232) :
    Calls Try.prog 3 #[.slice a0 len0 cap0] w fun e w' => e = .returned (.bool true) ∧ Below w.heap.size w w' := by
  obtain ⟨l0, rfl, hr0, hm0, hw0, hc0⟩ := ReadsInt.ofRowC w0
  obtain ⟨k, h⟩ := P l0 hm0 y0 hw0
  refine (laws_FnPackRequest.calls k _ _ l0 true w (Kd.C_of_reads (d := (0 : Int)) (h1 := fun _ => rfl) hr0) hc0 h).mono ?_
  rintro e w' ⟨rfl, hd⟩
  exact ⟨rfl, hd⟩

end Go.Proofs.Ytffihkpnampboaa.PFnPackRequest
