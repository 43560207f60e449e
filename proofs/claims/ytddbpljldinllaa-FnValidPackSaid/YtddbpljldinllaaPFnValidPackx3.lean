-- PRINTED BY print.sh 35421559b90ae4d0a3588c463048766b98c2df88dd9212a6774a882060cdf62d: not written by this session
import Derived.Test.YtddbpljldinllaaPFnValidPackx0
import Derived.Test.YtddbpljldinllaaPFnValidPackx2
namespace Go.Proofs.Ytddbpljldinllaa.PFnValidPack
open Go.RowKit Go.Proofs.YtddbpljldinllaaW.PrintWords Go.Proofs.YtddbpljldinllaaW.PrintLast Go.Proofs.YtddbpljldinllaaW.PrintMore
attribute [local go_sem] max2_int min2_int max_two min_two max_three min_three max_four min_four   -- for this text's walks alone
set_option linter.unusedVariables false
set_option linter.unusedSimpArgs false

/-! ### laws_FnValidPack: function 3 -/
mutual
def laws_FnValidPack.j0 : Nat → Bool → Bool → Int → Int → Int → Bool → Bool → Bool → Int → Int → Int → Option (Bool)
  | 0, _, _, _, _, _, _, _, _, _, _, _ => none
  | k + 1, x4, x21, x223000, x223001, x223002, x223003, x223004, x223005, x223006, x223007, x223008 => if x21 = true then ((spec_ValidPack.f x223000 x223001 x223002 x223003 x223004 x223005 x223006 x223007 x223008).bind fun t225 => (some (x4 == t225))) else (laws_FnValidPack.l0 k 0 0 0 x223002 x223003 x223004 x223005 x223006 x223007 x223008)
def laws_FnValidPack.l0 : Nat → Int → Int → Int → Int → Bool → Bool → Bool → Int → Int → Int → Option (Bool)
  | 0, _, _, _, _, _, _, _, _, _, _ => none
  | k + 1, x6, x227000, x227001, x227002, x227003, x227004, x227005, x227006, x227007, x227008 => if x6 ≤ 3 then ((impl_ValidPack.f x227000 x227001 x6 x227003 x227004 x227005 x227006 x227007 x227008).bind fun t227 => (if t227 = true then (laws_FnValidPack.l0 k (wrap64 (x6 + 1)) x227000 x227001 x6 x227003 x227004 x227005 x227006 x227007 x227008) else (some false))) else (some true)
end
def laws_FnValidPack.f (k : Nat) (l0 : List Int) : Option (Bool) := if (l0.length : Int) > 1048576 then (some true) else ((spec_DrawValidPack.f k l0).bind fun bt213 => ((impl_ValidPack.f bt213.1 bt213.2.1 bt213.2.2.1 bt213.2.2.2.1 bt213.2.2.2.2.1 bt213.2.2.2.2.2.1 bt213.2.2.2.2.2.2.1 bt213.2.2.2.2.2.2.2.1 bt213.2.2.2.2.2.2.2.2).bind fun t223 => ((spec_ValidPack.f bt213.1 bt213.2.1 bt213.2.2.1 bt213.2.2.2.1 bt213.2.2.2.2.1 bt213.2.2.2.2.2.1 bt213.2.2.2.2.2.2.1 bt213.2.2.2.2.2.2.2.1 bt213.2.2.2.2.2.2.2.2).bind fun t224 => (if (t223 != t224) = true then (laws_FnValidPack.j0 k t223 true bt213.1 bt213.2.1 bt213.2.2.1 bt213.2.2.2.1 bt213.2.2.2.2.1 bt213.2.2.2.2.2.1 bt213.2.2.2.2.2.2.1 bt213.2.2.2.2.2.2.2.1 bt213.2.2.2.2.2.2.2.2) else (laws_FnValidPack.j0 k t223 (!t223) bt213.1 bt213.2.1 bt213.2.2.1 bt213.2.2.2.1 bt213.2.2.2.2.1 bt213.2.2.2.2.2.1 bt213.2.2.2.2.2.2.1 bt213.2.2.2.2.2.2.2.1 bt213.2.2.2.2.2.2.2.2)))))
theorem laws_FnValidPack.mono_l : ∀ k, (∀ y0 y1 y2 y3 y4 y5 y6 y7 y8 y9 y10, LeO (laws_FnValidPack.j0 k y0 y1 y2 y3 y4 y5 y6 y7 y8 y9 y10) (laws_FnValidPack.j0 (k + 1) y0 y1 y2 y3 y4 y5 y6 y7 y8 y9 y10)) ∧ (∀ y0 y1 y2 y3 y4 y5 y6 y7 y8 y9, LeO (laws_FnValidPack.l0 k y0 y1 y2 y3 y4 y5 y6 y7 y8 y9) (laws_FnValidPack.l0 (k + 1) y0 y1 y2 y3 y4 y5 y6 y7 y8 y9))
  | 0 => ⟨fun _ _ _ _ _ _ _ _ _ _ _ r h => by simp [laws_FnValidPack.j0] at h, fun _ _ _ _ _ _ _ _ _ _ r h => by simp [laws_FnValidPack.l0] at h⟩
  | k + 1 => by
    obtain ⟨ih0, ih1⟩ := laws_FnValidPack.mono_l k
    refine ⟨?_, ?_⟩
    · intro y0 y1 y2 y3 y4 y5 y6 y7 y8 y9 y10
      unfold laws_FnValidPack.j0
      repeat' first
      | (with_reducible exact ih0 _ _ _ _ _ _ _ _ _ _ _)
      | (with_reducible exact ih1 _ _ _ _ _ _ _ _ _ _)
      | (with_reducible exact spec_DrawValidPack.mono _ _)
      | (with_reducible exact LeO.refl _)
      | (with_reducible exact LeO.none _)
      | (with_reducible refine LeO.ite ?_ ?_)
      | (with_reducible refine LeO.bind ?_ (fun _ => ?_))
      | exact ih0 _ _ _ _ _ _ _ _ _ _ _
      | exact ih1 _ _ _ _ _ _ _ _ _ _
      | exact spec_DrawValidPack.mono _ _
      | exact LeO.none _
      | refine LeO.ite ?_ ?_
      | refine LeO.bind ?_ (fun _ => ?_)
    · intro y0 y1 y2 y3 y4 y5 y6 y7 y8 y9
      unfold laws_FnValidPack.l0
      repeat' first
      | (with_reducible exact ih0 _ _ _ _ _ _ _ _ _ _ _)
      | (with_reducible exact ih1 _ _ _ _ _ _ _ _ _ _)
      | (with_reducible exact spec_DrawValidPack.mono _ _)
      | (with_reducible exact LeO.refl _)
      | (with_reducible exact LeO.none _)
      | (with_reducible refine LeO.ite ?_ ?_)
      | (with_reducible refine LeO.bind ?_ (fun _ => ?_))
      | exact ih0 _ _ _ _ _ _ _ _ _ _ _
      | exact ih1 _ _ _ _ _ _ _ _ _ _
      | exact spec_DrawValidPack.mono _ _
      | exact LeO.none _
      | refine LeO.ite ?_ ?_
      | refine LeO.bind ?_ (fun _ => ?_)
theorem laws_FnValidPack.mono : ∀ a0 k, LeO (laws_FnValidPack.f k a0) (laws_FnValidPack.f (k + 1) a0) := by
  intro a0 k
  obtain ⟨ih0, ih1⟩ := laws_FnValidPack.mono_l k
  unfold laws_FnValidPack.f
  repeat' first
      | (with_reducible exact ih0 _ _ _ _ _ _ _ _ _ _ _)
      | (with_reducible exact ih1 _ _ _ _ _ _ _ _ _ _)
      | (with_reducible exact spec_DrawValidPack.mono _ _)
      | (with_reducible exact LeO.refl _)
      | (with_reducible exact LeO.none _)
      | (with_reducible refine LeO.ite ?_ ?_)
      | (with_reducible refine LeO.bind ?_ (fun _ => ?_))
      | exact ih0 _ _ _ _ _ _ _ _ _ _ _
      | exact ih1 _ _ _ _ _ _ _ _ _ _
      | exact spec_DrawValidPack.mono _ _
      | exact LeO.none _
      | refine LeO.ite ?_ ?_
      | refine LeO.bind ?_ (fun _ => ?_)
set_option maxHeartbeats 8000000 in
set_option maxRecDepth 100000 in
theorem laws_FnValidPack.calls (k : Nat) (A0 : Option Addr) (c0 : Nat) (l0 : List Int) (r : Bool) (w : World) (hr0 : Kd.C (Kd.int .u8) w A0 l0.length l0) (hc0 : l0.length ≤ c0) (h : laws_FnValidPack.f k l0 = some r) :
    Calls Try.prog 3 #[.slice A0 l0.length c0] w fun e w' => e = .returned (.bool r) ∧ Below w.heap.size w w' := by
  have hu24 := Try.underlying24
  have HR0 := Aside0.mk hr0
  have HC0 := Aside0.mk hc0
  clear hr0 hc0
  have HB := Aside0.mk (Below.refl w.heap.size w)
  have H : (if (l0.length : Int) > 1048576 then (some true) else ((spec_DrawValidPack.f k l0).bind fun bt213 => ((impl_ValidPack.f bt213.1 bt213.2.1 bt213.2.2.1 bt213.2.2.2.1 bt213.2.2.2.2.1 bt213.2.2.2.2.2.1 bt213.2.2.2.2.2.2.1 bt213.2.2.2.2.2.2.2.1 bt213.2.2.2.2.2.2.2.2).bind fun t223 => ((spec_ValidPack.f bt213.1 bt213.2.1 bt213.2.2.1 bt213.2.2.2.1 bt213.2.2.2.2.1 bt213.2.2.2.2.2.1 bt213.2.2.2.2.2.2.1 bt213.2.2.2.2.2.2.2.1 bt213.2.2.2.2.2.2.2.2).bind fun t224 => (if (t223 != t224) = true then (laws_FnValidPack.j0 k t223 true bt213.1 bt213.2.1 bt213.2.2.1 bt213.2.2.2.1 bt213.2.2.2.2.1 bt213.2.2.2.2.2.1 bt213.2.2.2.2.2.2.1 bt213.2.2.2.2.2.2.2.1 bt213.2.2.2.2.2.2.2.2) else (laws_FnValidPack.j0 k t223 (!t223) bt213.1 bt213.2.1 bt213.2.2.1 bt213.2.2.2.1 bt213.2.2.2.2.1 bt213.2.2.2.2.2.1 bt213.2.2.2.2.2.2.1 bt213.2.2.2.2.2.2.2.1 bt213.2.2.2.2.2.2.2.2)))))) = some r := h
  clear h
  by_cases c2 : (l0.length : Int) > 1048576
  · rw [if_pos c2] at H
    have c2b0 : decide (1048576 < (l0.length : Int)) = true := decide_eq_true c2
    have c2b1 : decide (1048576 < l0.length) = true := decide_eq_true (by omega)
    clear c2
    obtain rfl := Option.some.inj H
    go_enter Try.func3, Try.ntmps3
    go_wp2
    go_ret
    exact ⟨by first | rfl | (simp [errW_none, errW_some] <;> rfl) | (simp [*, errW_none, errW_some] <;> rfl), by repeat (first | (with_reducible first | exact HB.out | apply below_alloc | apply pw_below_drewN | apply below_drew1) | exact HB.out)⟩
  · rw [if_neg c2] at H
    have c2b0 : decide (1048576 < (l0.length : Int)) = false := decide_eq_false c2
    have c2b1 : decide (1048576 < l0.length) = false := decide_eq_false (by omega)
    clear c2
    replace H := Option.bind_eq_some_iff.mp H
    obtain ⟨⟨t213, t214, t215, t216, t217, t218, t219, t220, t221⟩, A30, H⟩ := H
    replace H : ((impl_ValidPack.f t213 t214 t215 t216 t217 t218 t219 t220 t221).bind fun t223 => ((spec_ValidPack.f t213 t214 t215 t216 t217 t218 t219 t220 t221).bind fun t224 => (if (t223 != t224) = true then (laws_FnValidPack.j0 k t223 true t213 t214 t215 t216 t217 t218 t219 t220 t221) else (laws_FnValidPack.j0 k t223 (!t223) t213 t214 t215 t216 t217 t218 t219 t220 t221)))) = some r := H
    have A3 := Aside0.mk A30
    clear A30
    replace H := Option.bind_eq_some_iff.mp H
    obtain ⟨t223, A40, H⟩ := H
    replace H : ((spec_ValidPack.f t213 t214 t215 t216 t217 t218 t219 t220 t221).bind fun t224 => (if (t223 != t224) = true then (laws_FnValidPack.j0 k t223 true t213 t214 t215 t216 t217 t218 t219 t220 t221) else (laws_FnValidPack.j0 k t223 (!t223) t213 t214 t215 t216 t217 t218 t219 t220 t221))) = some r := H
    have A4 := Aside0.mk A40
    clear A40
    have HC5 := Aside0.mk H
    clear H
    go_enter Try.func3, Try.ntmps3
    go_upto_region 5 with (first | ((with_reducible refine gate_callee (f := 15) rfl ?_); refine goesL_ (some 11) rfl rfl Try.func15 (by kernel_rfl) rfl #[.slice A0 l0.length c0] rfl (by (try simp only [List.map_toArray, List.map_cons, List.map_nil]); first | done | rfl | (simp only [List.length_drop, List.length_take]; rfl)) ?_; (with_reducible refine (spec_DrawValidPack.calls k _ _ l0 t213 t214 t215 t216 t217 t218 t219 t220 t221 _ ?side1 ?side2 A3.out).mono ?_); (case side1 => repeat (first | exact HR0.out | (with_reducible refine Kd.C_alloc ?_ _) | (with_reducible refine Kd.C_drewN ?_ _) | (with_reducible refine Kd.C_drew ?_))); (case side2 => exact HC0.out); rintro e w6 ⟨rfl, hb⟩; refine ⟨_, rfl, ?_⟩; have n0_ := Aside0.mk (below_step (by repeat (first | (with_reducible first | exact HB.out | apply below_alloc | apply pw_below_drewN | apply below_drew1) | exact HB.out)) hb); clear HB; have HB := n0_; clear n0_; (try clear hb); (try clear hb2); (try clear hk); (try clear hi)) | ((with_reducible refine gate_dst (N := 3) rfl ?_); refine box_event ?hg (N := 3) ?hd (cs := #[.int .i64 0, .int .i64 0, .int .i64 0, .bool false, .bool false, .bool false, .int .i64 0, .int .i64 0, .int .i64 0]) (t := 24) ?hr ?_; (case hd => rfl); (case hg => rfl); (case hr => first | (go_simp; done) | (go_simp; rfl)); intro gb222 hg w7 hbox hb; have n0_ := Aside0.mk (below_step (by repeat (first | (with_reducible first | exact HB.out | apply below_alloc | apply pw_below_drewN | apply below_drew1) | exact HB.out)) hb); have n1_ := Aside0.mk (hbox); have n2_ := Aside0.mk ((by rw [hg]; exact (below_size (by repeat (first | (with_reducible first | exact HB.out | apply below_alloc | apply pw_below_drewN | apply below_drew1) | exact HB.out))) : w.heap.size ≤ gb222)); have n3_ := Aside0.mk ((by rw [hg]; exact (below_size (by repeat (first | (with_reducible first | exact HB.out | apply below_alloc | apply pw_below_drewN | apply below_drew1) | exact HB.out))) : w.heap.size ≤ gb222)); clear HB; have HB := n0_; have BK222 := n1_; have GW222 := n2_; have GE222 := n3_; clear n0_ n1_ n2_ n3_; clear hb hbox hg; have hcz8_0 : w7.cell? ⟨gb222, 0, none⟩ = some (.int .i64 0) := (blk_cell BK222.out 0).trans rfl; have hcz8_1 : w7.cell? ⟨gb222, 1, none⟩ = some (.int .i64 0) := (blk_cell BK222.out 1).trans rfl; have hcz8_2 : w7.cell? ⟨gb222, 2, none⟩ = some (.int .i64 0) := (blk_cell BK222.out 2).trans rfl; have hcz8_3 : w7.cell? ⟨gb222, 3, none⟩ = some (.bool false) := (blk_cell BK222.out 3).trans rfl; have hcz8_4 : w7.cell? ⟨gb222, 4, none⟩ = some (.bool false) := (blk_cell BK222.out 4).trans rfl; have hcz8_5 : w7.cell? ⟨gb222, 5, none⟩ = some (.bool false) := (blk_cell BK222.out 5).trans rfl; have hcz8_6 : w7.cell? ⟨gb222, 6, none⟩ = some (.int .i64 0) := (blk_cell BK222.out 6).trans rfl; have hcz8_7 : w7.cell? ⟨gb222, 7, none⟩ = some (.int .i64 0) := (blk_cell BK222.out 7).trans rfl; have hcz8_8 : w7.cell? ⟨gb222, 8, none⟩ = some (.int .i64 0) := (blk_cell BK222.out 8).trans rfl; have hfz8_0 := blk_frozen BK222.out 0; have hfz8_1 := blk_frozen BK222.out 1; have hfz8_2 := blk_frozen BK222.out 2; have hfz8_3 := blk_frozen BK222.out 3; have hfz8_4 := blk_frozen BK222.out 4; have hfz8_5 := blk_frozen BK222.out 5; have hfz8_6 := blk_frozen BK222.out 6; have hfz8_7 := blk_frozen BK222.out 7; have hfz8_8 := blk_frozen BK222.out 8) | ((with_reducible refine gate_callee (f := 16) rfl ?_); refine goesL_ (some 13) rfl rfl Try.func16 (by kernel_rfl) rfl #[.agg #[.int .i64 t213, .int .i64 t214, .int .i64 t215, .bool t216, .bool t217, .bool t218, .int .i64 t219, .int .i64 t220, .int .i64 t221]] rfl (by (try simp only [List.map_toArray, List.map_cons, List.map_nil]); first | done | rfl | (simp only [List.length_drop, List.length_take]; rfl)) ?_; (with_reducible refine (impl_ValidPack.calls t213 t214 t215 t216 t217 t218 t219 t220 t221 t223 _ A4.out).mono ?_); rintro e w9 ⟨rfl, hb⟩; refine ⟨_, rfl, ?_⟩; have n0_ := Aside0.mk (blk_below (g := gb222) (o := .cells #[.int .i64 t213, .int .i64 t214, .int .i64 t215, .bool t216, .bool t217, .bool t218, .int .i64 t219, .int .i64 t220, .int .i64 t221] 24 (0, 0)) (by (with_reducible repeat (first | refine blk_drewN ?_ _ | refine blk_drew ?_ | refine blk_alloc ?_ _)); refine blk_put (cs := #[.int .i64 t213, .int .i64 t214, .int .i64 t215, .bool t216, .bool t217, .bool t218, .int .i64 t219, .int .i64 t220, .int .i64 0]) ?_ 8 _ rfl; (with_reducible repeat (first | refine blk_drewN ?_ _ | refine blk_drew ?_ | refine blk_alloc ?_ _)); refine blk_put (cs := #[.int .i64 t213, .int .i64 t214, .int .i64 t215, .bool t216, .bool t217, .bool t218, .int .i64 t219, .int .i64 0, .int .i64 0]) ?_ 7 _ rfl; (with_reducible repeat (first | refine blk_drewN ?_ _ | refine blk_drew ?_ | refine blk_alloc ?_ _)); refine blk_put (cs := #[.int .i64 t213, .int .i64 t214, .int .i64 t215, .bool t216, .bool t217, .bool t218, .int .i64 0, .int .i64 0, .int .i64 0]) ?_ 6 _ rfl; (with_reducible repeat (first | refine blk_drewN ?_ _ | refine blk_drew ?_ | refine blk_alloc ?_ _)); refine blk_put (cs := #[.int .i64 t213, .int .i64 t214, .int .i64 t215, .bool t216, .bool t217, .bool false, .int .i64 0, .int .i64 0, .int .i64 0]) ?_ 5 _ rfl; (with_reducible repeat (first | refine blk_drewN ?_ _ | refine blk_drew ?_ | refine blk_alloc ?_ _)); refine blk_put (cs := #[.int .i64 t213, .int .i64 t214, .int .i64 t215, .bool t216, .bool false, .bool false, .int .i64 0, .int .i64 0, .int .i64 0]) ?_ 4 _ rfl; (with_reducible repeat (first | refine blk_drewN ?_ _ | refine blk_drew ?_ | refine blk_alloc ?_ _)); refine blk_put (cs := #[.int .i64 t213, .int .i64 t214, .int .i64 t215, .bool false, .bool false, .bool false, .int .i64 0, .int .i64 0, .int .i64 0]) ?_ 3 _ rfl; (with_reducible repeat (first | refine blk_drewN ?_ _ | refine blk_drew ?_ | refine blk_alloc ?_ _)); refine blk_put (cs := #[.int .i64 t213, .int .i64 t214, .int .i64 0, .bool false, .bool false, .bool false, .int .i64 0, .int .i64 0, .int .i64 0]) ?_ 2 _ rfl; (with_reducible repeat (first | refine blk_drewN ?_ _ | refine blk_drew ?_ | refine blk_alloc ?_ _)); refine blk_put (cs := #[.int .i64 t213, .int .i64 0, .int .i64 0, .bool false, .bool false, .bool false, .int .i64 0, .int .i64 0, .int .i64 0]) ?_ 1 _ rfl; (with_reducible repeat (first | refine blk_drewN ?_ _ | refine blk_drew ?_ | refine blk_alloc ?_ _)); refine blk_put (cs := #[.int .i64 0, .int .i64 0, .int .i64 0, .bool false, .bool false, .bool false, .int .i64 0, .int .i64 0, .int .i64 0]) ?_ 0 _ rfl; (with_reducible repeat (first | refine blk_drewN ?_ _ | refine blk_drew ?_ | refine blk_alloc ?_ _)); exact BK222.out) hb); have n1_ := Aside0.mk (below_step (by repeat (first | (with_reducible first | exact HB.out | apply below_alloc | apply pw_below_drewN | apply below_drew1 | refine below_set ?_ GE222.out) | exact HB.out)) hb); clear BK222; clear HB; have BK222 := n0_; have HB := n1_; clear n0_ n1_; (try clear hb); (try clear hb2); (try clear hk); (try clear hi)))
    (try simp only [Act.put, List.setIfInBounds_toArray, List.set_cons_zero, List.set_cons_succ])
    go_cut [21] (fun v21 wc => ∃ (kq : Nat) (x21_4 : Bool), v21 = .bool x21_4 ∧ Aside0 (laws_FnValidPack.j0 kq t223 x21_4 t213 t214 t215 t216 t217 t218 t219 t220 t221 = some r) ∧ Aside0 (kq ≤ k) ∧ Aside0 (wc.heap[gb222]? = some (.cells #[.int .i64 t213, .int .i64 t214, .int .i64 t215, .bool t216, .bool t217, .bool t218, .int .i64 t219, .int .i64 t220, .int .i64 t221] 24 (0, 0))) ∧ Aside0 (Below w.heap.size w wc))
    case first =>
      have H := HC5.out
      clear HC5
      replace H := Option.bind_eq_some_iff.mp H
      obtain ⟨t224, A100, H⟩ := H
      replace H : (if (t223 != t224) = true then (laws_FnValidPack.j0 k t223 true t213 t214 t215 t216 t217 t218 t219 t220 t221) else (laws_FnValidPack.j0 k t223 (!t223) t213 t214 t215 t216 t217 t218 t219 t220 t221)) = some r := H
      have A10 := Aside0.mk A100
      clear A100
      by_cases c11 : (t223 != t224) = true
      · rw [if_pos c11] at H
        have c11b0 : (t223 != t224) = true := c11
        (try (have c11b1 : decide (t223 = t224) = false := by simpa using c11))
        (try (have c11b2 : (t223 == t224) = false := by simpa using c11))
        (try (have c11b3 : ¬ (t223 = t224) := by simpa using c11))
        clear c11
        (first | rw [c11b0] | (simp only [i64_w, i32_w]; rw [c11b0]) | skip)
        have H' := Aside0.mk H
        clear H
        have hcz12_0 : w9.cell? ⟨gb222, 0, none⟩ = some (.int .i64 t213) := (blk_cell BK222.out 0).trans rfl
        have hcz12_1 : w9.cell? ⟨gb222, 1, none⟩ = some (.int .i64 t214) := (blk_cell BK222.out 1).trans rfl
        have hcz12_2 : w9.cell? ⟨gb222, 2, none⟩ = some (.int .i64 t215) := (blk_cell BK222.out 2).trans rfl
        have hcz12_3 : w9.cell? ⟨gb222, 3, none⟩ = some (.bool t216) := (blk_cell BK222.out 3).trans rfl
        have hcz12_4 : w9.cell? ⟨gb222, 4, none⟩ = some (.bool t217) := (blk_cell BK222.out 4).trans rfl
        have hcz12_5 : w9.cell? ⟨gb222, 5, none⟩ = some (.bool t218) := (blk_cell BK222.out 5).trans rfl
        have hcz12_6 : w9.cell? ⟨gb222, 6, none⟩ = some (.int .i64 t219) := (blk_cell BK222.out 6).trans rfl
        have hcz12_7 : w9.cell? ⟨gb222, 7, none⟩ = some (.int .i64 t220) := (blk_cell BK222.out 7).trans rfl
        have hcz12_8 : w9.cell? ⟨gb222, 8, none⟩ = some (.int .i64 t221) := (blk_cell BK222.out 8).trans rfl
        have hfz12_0 := blk_frozen BK222.out 0
        have hfz12_1 := blk_frozen BK222.out 1
        have hfz12_2 := blk_frozen BK222.out 2
        have hfz12_3 := blk_frozen BK222.out 3
        have hfz12_4 := blk_frozen BK222.out 4
        have hfz12_5 := blk_frozen BK222.out 5
        have hfz12_6 := blk_frozen BK222.out 6
        have hfz12_7 := blk_frozen BK222.out 7
        have hfz12_8 := blk_frozen BK222.out 8
        go_wp2_with (first | ((with_reducible refine gate_callee (f := 17) rfl ?_); refine goesL_ (some 16) rfl rfl Try.func17 (by kernel_rfl) rfl #[.agg #[.int .i64 t213, .int .i64 t214, .int .i64 t215, .bool t216, .bool t217, .bool t218, .int .i64 t219, .int .i64 t220, .int .i64 t221]] rfl (by (try simp only [List.map_toArray, List.map_cons, List.map_nil]); first | done | rfl | (simp only [List.length_drop, List.length_take]; rfl)) ?_; (with_reducible refine (spec_ValidPack.calls t213 t214 t215 t216 t217 t218 t219 t220 t221 t224 _ A10.out).mono ?_); rintro e w13 ⟨rfl, hb⟩; refine ⟨_, rfl, ?_⟩; have n0_ := Aside0.mk (blk_below (g := gb222) (o := .cells #[.int .i64 t213, .int .i64 t214, .int .i64 t215, .bool t216, .bool t217, .bool t218, .int .i64 t219, .int .i64 t220, .int .i64 t221] 24 (0, 0)) (by (with_reducible repeat (first | refine blk_drewN ?_ _ | refine blk_drew ?_ | refine blk_alloc ?_ _)); exact BK222.out) hb); have n1_ := Aside0.mk (below_step (by repeat (first | (with_reducible first | exact HB.out | apply below_alloc | apply pw_below_drewN | apply below_drew1 | refine below_set ?_ GE222.out) | exact HB.out)) hb); clear BK222; clear HB; have BK222 := n0_; have HB := n1_; clear n0_ n1_; (try clear hb); (try clear hb2); (try clear hk); (try clear hi)))
        go_meet
        case rel => exact ⟨_, (true), (by first | rfl | (simp; done) | (simp [*]; done)), H', ⟨by first | omega | exact Nat.le_refl _⟩, ⟨by (with_reducible repeat (first | refine blk_drewN ?_ _ | refine blk_drew ?_ | refine blk_alloc ?_ _)); exact BK222.out⟩, ⟨by repeat (first | (with_reducible first | exact HB.out | apply below_alloc | apply pw_below_drewN | apply below_drew1 | refine below_set ?_ GE222.out) | exact HB.out)⟩⟩
      · rw [if_neg c11] at H
        have c11b0 : (t223 != t224) = false := by simpa using c11
        (try (have c11b1 : decide (t223 = t224) = true := by simpa using c11))
        (try (have c11b2 : (t223 == t224) = true := by simpa using c11))
        clear c11
        (first | rw [c11b0] | (simp only [i64_w, i32_w]; rw [c11b0]) | skip)
        have H' := Aside0.mk H
        clear H
        have hcz14_0 : w9.cell? ⟨gb222, 0, none⟩ = some (.int .i64 t213) := (blk_cell BK222.out 0).trans rfl
        have hcz14_1 : w9.cell? ⟨gb222, 1, none⟩ = some (.int .i64 t214) := (blk_cell BK222.out 1).trans rfl
        have hcz14_2 : w9.cell? ⟨gb222, 2, none⟩ = some (.int .i64 t215) := (blk_cell BK222.out 2).trans rfl
        have hcz14_3 : w9.cell? ⟨gb222, 3, none⟩ = some (.bool t216) := (blk_cell BK222.out 3).trans rfl
        have hcz14_4 : w9.cell? ⟨gb222, 4, none⟩ = some (.bool t217) := (blk_cell BK222.out 4).trans rfl
        have hcz14_5 : w9.cell? ⟨gb222, 5, none⟩ = some (.bool t218) := (blk_cell BK222.out 5).trans rfl
        have hcz14_6 : w9.cell? ⟨gb222, 6, none⟩ = some (.int .i64 t219) := (blk_cell BK222.out 6).trans rfl
        have hcz14_7 : w9.cell? ⟨gb222, 7, none⟩ = some (.int .i64 t220) := (blk_cell BK222.out 7).trans rfl
        have hcz14_8 : w9.cell? ⟨gb222, 8, none⟩ = some (.int .i64 t221) := (blk_cell BK222.out 8).trans rfl
        have hfz14_0 := blk_frozen BK222.out 0
        have hfz14_1 := blk_frozen BK222.out 1
        have hfz14_2 := blk_frozen BK222.out 2
        have hfz14_3 := blk_frozen BK222.out 3
        have hfz14_4 := blk_frozen BK222.out 4
        have hfz14_5 := blk_frozen BK222.out 5
        have hfz14_6 := blk_frozen BK222.out 6
        have hfz14_7 := blk_frozen BK222.out 7
        have hfz14_8 := blk_frozen BK222.out 8
        go_wp2_with (first | ((with_reducible refine gate_callee (f := 17) rfl ?_); refine goesL_ (some 16) rfl rfl Try.func17 (by kernel_rfl) rfl #[.agg #[.int .i64 t213, .int .i64 t214, .int .i64 t215, .bool t216, .bool t217, .bool t218, .int .i64 t219, .int .i64 t220, .int .i64 t221]] rfl (by (try simp only [List.map_toArray, List.map_cons, List.map_nil]); first | done | rfl | (simp only [List.length_drop, List.length_take]; rfl)) ?_; (with_reducible refine (spec_ValidPack.calls t213 t214 t215 t216 t217 t218 t219 t220 t221 t224 _ A10.out).mono ?_); rintro e w15 ⟨rfl, hb⟩; refine ⟨_, rfl, ?_⟩; have n0_ := Aside0.mk (blk_below (g := gb222) (o := .cells #[.int .i64 t213, .int .i64 t214, .int .i64 t215, .bool t216, .bool t217, .bool t218, .int .i64 t219, .int .i64 t220, .int .i64 t221] 24 (0, 0)) (by (with_reducible repeat (first | refine blk_drewN ?_ _ | refine blk_drew ?_ | refine blk_alloc ?_ _)); exact BK222.out) hb); have n1_ := Aside0.mk (below_step (by repeat (first | (with_reducible first | exact HB.out | apply below_alloc | apply pw_below_drewN | apply below_drew1 | refine below_set ?_ GE222.out) | exact HB.out)) hb); clear BK222; clear HB; have BK222 := n0_; have HB := n1_; clear n0_ n1_; (try clear hb); (try clear hb2); (try clear hk); (try clear hi)))
        go_meet
        case rel => exact ⟨_, (!t223), (by first | rfl | (simp; done) | (simp [*]; done)), H', ⟨by first | omega | exact Nat.le_refl _⟩, ⟨by (with_reducible repeat (first | refine blk_drewN ?_ _ | refine blk_drew ?_ | refine blk_alloc ?_ _)); exact BK222.out⟩, ⟨by repeat (first | (with_reducible first | exact HB.out | apply below_alloc | apply pw_below_drewN | apply below_drew1 | refine below_set ?_ GE222.out) | exact HB.out)⟩⟩
    case rest =>
      clear HC5
      try clear c1
      try clear c2
      try clear c2b0
      try clear c2b1
      try clear p2
      try clear c3
      try clear c11
      try clear c11b0
      try clear c11b1
      try clear c11b2
      try clear c15
      try clear hcz12_0
      try clear hcz12_1
      try clear hcz12_2
      try clear hcz12_3
      try clear hcz12_4
      try clear hcz12_5
      try clear hcz12_6
      try clear hcz12_7
      try clear hcz12_8
      try clear hcz14_0
      try clear hcz14_1
      try clear hcz14_2
      try clear hcz14_3
      try clear hcz14_4
      try clear hcz14_5
      try clear hcz14_6
      try clear hcz14_7
      try clear hcz14_8
      try clear hcz8_0
      try clear hcz8_1
      try clear hcz8_2
      try clear hcz8_3
      try clear hcz8_4
      try clear hcz8_5
      try clear hcz8_6
      try clear hcz8_7
      try clear hcz8_8
      try clear hfz12_0
      try clear hfz12_1
      try clear hfz12_2
      try clear hfz12_3
      try clear hfz12_4
      try clear hfz12_5
      try clear hfz12_6
      try clear hfz12_7
      try clear hfz12_8
      try clear hfz14_0
      try clear hfz14_1
      try clear hfz14_2
      try clear hfz14_3
      try clear hfz14_4
      try clear hfz14_5
      try clear hfz14_6
      try clear hfz14_7
      try clear hfz14_8
      try clear hfz8_0
      try clear hfz8_1
      try clear hfz8_2
      try clear hfz8_3
      try clear hfz8_4
      try clear hfz8_5
      try clear hfz8_6
      try clear hfz8_7
      try clear hfz8_8
      obtain ⟨kq, x21_4, rfl, HA, HJ4, BK222, HB⟩ := hcut
      cases kq with
      | zero => exact absurd HA.out (by simp [laws_FnValidPack.j0])
      | succ kj4 =>
        have H := HA.out
        clear HA
        simp only [laws_FnValidPack.j0] at H
        by_cases c16 : x21_4 = true
        · subst c16
          have H1 : ((spec_ValidPack.f t213 t214 t215 t216 t217 t218 t219 t220 t221).bind fun t225 => (some (t223 == t225))) = some r := by rw [if_pos rfl] at H; exact H
          clear H
          have H := H1
          clear H1
          replace H := Option.bind_eq_some_iff.mp H
          obtain ⟨t225, A170, H⟩ := H
          replace H : (some (t223 == t225)) = some r := H
          have A17 := Aside0.mk A170
          clear A170
          obtain rfl := Option.some.inj H
          have hcz18_0 : wc.cell? ⟨gb222, 0, none⟩ = some (.int .i64 t213) := (blk_cell BK222.out 0).trans rfl
          have hcz18_1 : wc.cell? ⟨gb222, 1, none⟩ = some (.int .i64 t214) := (blk_cell BK222.out 1).trans rfl
          have hcz18_2 : wc.cell? ⟨gb222, 2, none⟩ = some (.int .i64 t215) := (blk_cell BK222.out 2).trans rfl
          have hcz18_3 : wc.cell? ⟨gb222, 3, none⟩ = some (.bool t216) := (blk_cell BK222.out 3).trans rfl
          have hcz18_4 : wc.cell? ⟨gb222, 4, none⟩ = some (.bool t217) := (blk_cell BK222.out 4).trans rfl
          have hcz18_5 : wc.cell? ⟨gb222, 5, none⟩ = some (.bool t218) := (blk_cell BK222.out 5).trans rfl
          have hcz18_6 : wc.cell? ⟨gb222, 6, none⟩ = some (.int .i64 t219) := (blk_cell BK222.out 6).trans rfl
          have hcz18_7 : wc.cell? ⟨gb222, 7, none⟩ = some (.int .i64 t220) := (blk_cell BK222.out 7).trans rfl
          have hcz18_8 : wc.cell? ⟨gb222, 8, none⟩ = some (.int .i64 t221) := (blk_cell BK222.out 8).trans rfl
          have hfz18_0 := blk_frozen BK222.out 0
          have hfz18_1 := blk_frozen BK222.out 1
          have hfz18_2 := blk_frozen BK222.out 2
          have hfz18_3 := blk_frozen BK222.out 3
          have hfz18_4 := blk_frozen BK222.out 4
          have hfz18_5 := blk_frozen BK222.out 5
          have hfz18_6 := blk_frozen BK222.out 6
          have hfz18_7 := blk_frozen BK222.out 7
          have hfz18_8 := blk_frozen BK222.out 8
          go_wp2_with (first | ((with_reducible refine gate_callee (f := 17) rfl ?_); refine goesL_ (some 24) rfl rfl Try.func17 (by kernel_rfl) rfl #[.agg #[.int .i64 t213, .int .i64 t214, .int .i64 t215, .bool t216, .bool t217, .bool t218, .int .i64 t219, .int .i64 t220, .int .i64 t221]] rfl (by (try simp only [List.map_toArray, List.map_cons, List.map_nil]); first | done | rfl | (simp only [List.length_drop, List.length_take]; rfl)) ?_; (with_reducible refine (spec_ValidPack.calls t213 t214 t215 t216 t217 t218 t219 t220 t221 t225 _ A17.out).mono ?_); rintro e w19 ⟨rfl, hb⟩; refine ⟨_, rfl, ?_⟩; have n0_ := Aside0.mk (blk_below (g := gb222) (o := .cells #[.int .i64 t213, .int .i64 t214, .int .i64 t215, .bool t216, .bool t217, .bool t218, .int .i64 t219, .int .i64 t220, .int .i64 t221] 24 (0, 0)) (by (with_reducible repeat (first | refine blk_drewN ?_ _ | refine blk_drew ?_ | refine blk_alloc ?_ _)); exact BK222.out) hb); have n1_ := Aside0.mk (below_step (by repeat (first | (with_reducible first | exact HB.out | apply below_alloc | apply pw_below_drewN | apply below_drew1 | refine below_set ?_ GE222.out) | exact HB.out)) hb); clear BK222; clear HB; have BK222 := n0_; have HB := n1_; clear n0_ n1_; (try clear hb); (try clear hb2); (try clear hk); (try clear hi)))
          go_ret
          exact ⟨by first | rfl | (simp [errW_none, errW_some] <;> rfl) | (simp [*, errW_none, errW_some] <;> rfl), by repeat (first | (with_reducible first | exact HB.out | apply below_alloc | apply pw_below_drewN | apply below_drew1 | refine below_set ?_ GE222.out) | exact HB.out)⟩
        · replace c16 := Bool.eq_false_iff.mpr c16
          subst c16
          have H1 : (laws_FnValidPack.l0 kj4 0 0 0 t215 t216 t217 t218 t219 t220 t221) = some r := by rw [if_neg (show ¬ (false = true) by decide)] at H; exact H
          clear H
          have H := H1
          clear H1
          have H' := Aside0.mk H
          clear H
          have hcz20_0 : wc.cell? ⟨gb222, 0, none⟩ = some (.int .i64 t213) := (blk_cell BK222.out 0).trans rfl
          have hcz20_1 : wc.cell? ⟨gb222, 1, none⟩ = some (.int .i64 t214) := (blk_cell BK222.out 1).trans rfl
          have hcz20_2 : wc.cell? ⟨gb222, 2, none⟩ = some (.int .i64 t215) := (blk_cell BK222.out 2).trans rfl
          have hcz20_3 : wc.cell? ⟨gb222, 3, none⟩ = some (.bool t216) := (blk_cell BK222.out 3).trans rfl
          have hcz20_4 : wc.cell? ⟨gb222, 4, none⟩ = some (.bool t217) := (blk_cell BK222.out 4).trans rfl
          have hcz20_5 : wc.cell? ⟨gb222, 5, none⟩ = some (.bool t218) := (blk_cell BK222.out 5).trans rfl
          have hcz20_6 : wc.cell? ⟨gb222, 6, none⟩ = some (.int .i64 t219) := (blk_cell BK222.out 6).trans rfl
          have hcz20_7 : wc.cell? ⟨gb222, 7, none⟩ = some (.int .i64 t220) := (blk_cell BK222.out 7).trans rfl
          have hcz20_8 : wc.cell? ⟨gb222, 8, none⟩ = some (.int .i64 t221) := (blk_cell BK222.out 8).trans rfl
          have hfz20_0 := blk_frozen BK222.out 0
          have hfz20_1 := blk_frozen BK222.out 1
          have hfz20_2 := blk_frozen BK222.out 2
          have hfz20_3 := blk_frozen BK222.out 3
          have hfz20_4 := blk_frozen BK222.out 4
          have hfz20_5 := blk_frozen BK222.out 5
          have hfz20_6 := blk_frozen BK222.out 6
          have hfz20_7 := blk_frozen BK222.out 7
          have hfz20_8 := blk_frozen BK222.out 8
          go_wp2_with (first | ((with_reducible refine gate_dst (N := 5) rfl ?_); refine box_event ?hg (N := 5) ?hd (cs := #[.int .i64 0, .int .i64 0, .int .i64 0, .bool false, .bool false, .bool false, .int .i64 0, .int .i64 0, .int .i64 0]) (t := 24) ?hr ?_; (case hd => rfl); (case hg => rfl); (case hr => first | (go_simp; done) | (go_simp; rfl)); intro gb226 hg w21 hbox hb; have n0_ := Aside0.mk (blk_below (g := gb222) (o := .cells #[.int .i64 t213, .int .i64 t214, .int .i64 t215, .bool t216, .bool t217, .bool t218, .int .i64 t219, .int .i64 t220, .int .i64 t221] 24 (0, 0)) (by (with_reducible repeat (first | refine blk_drewN ?_ _ | refine blk_drew ?_ | refine blk_alloc ?_ _)); exact BK222.out) hb); have n1_ := Aside0.mk (below_step (by repeat (first | (with_reducible first | exact HB.out | apply below_alloc | apply pw_below_drewN | apply below_drew1 | refine below_set ?_ GE222.out) | exact HB.out)) hb); have n2_ := Aside0.mk (hbox); have n3_ := Aside0.mk ((by rw [hg]; exact (below_size (by repeat (first | (with_reducible first | exact HB.out | apply below_alloc | apply pw_below_drewN | apply below_drew1 | refine below_set ?_ GE222.out) | exact HB.out))) : w.heap.size ≤ gb226)); have n4_ := Aside0.mk ((by rw [hg]; exact (below_size (by repeat (first | (with_reducible first | exact HB.out | apply below_alloc | apply pw_below_drewN | apply below_drew1 | refine below_set ?_ GE222.out) | exact HB.out))) : w.heap.size ≤ gb226)); have n5_ := Aside0.mk ((by rw [hg]; exact Nat.ne_of_lt (blk_lt (g := gb222) (o := .cells #[.int .i64 t213, .int .i64 t214, .int .i64 t215, .bool t216, .bool t217, .bool t218, .int .i64 t219, .int .i64 t220, .int .i64 t221] 24 (0, 0)) (by (with_reducible repeat (first | refine blk_drewN ?_ _ | refine blk_drew ?_ | refine blk_alloc ?_ _)); exact BK222.out)) : gb222 ≠ gb226)); have n6_ := Aside0.mk ((by rw [hg]; exact Nat.ne_of_gt (blk_lt (g := gb222) (o := .cells #[.int .i64 t213, .int .i64 t214, .int .i64 t215, .bool t216, .bool t217, .bool t218, .int .i64 t219, .int .i64 t220, .int .i64 t221] 24 (0, 0)) (by (with_reducible repeat (first | refine blk_drewN ?_ _ | refine blk_drew ?_ | refine blk_alloc ?_ _)); exact BK222.out)) : gb226 ≠ gb222)); clear BK222; clear HB; have BK222 := n0_; have HB := n1_; have BK226 := n2_; have GW226 := n3_; have GE226 := n4_; have NB222_226 := n5_; have NB226_222 := n6_; clear n0_ n1_ n2_ n3_ n4_ n5_ n6_; clear hb hbox hg; have hnb22 := NB226_222.out; have hnc22 := NB222_226.out; have hcz23_0 : w21.cell? ⟨gb226, 0, none⟩ = some (.int .i64 0) := (blk_cell BK226.out 0).trans rfl; have hcz23_1 : w21.cell? ⟨gb226, 1, none⟩ = some (.int .i64 0) := (blk_cell BK226.out 1).trans rfl; have hcz23_2 : w21.cell? ⟨gb226, 2, none⟩ = some (.int .i64 0) := (blk_cell BK226.out 2).trans rfl; have hcz23_3 : w21.cell? ⟨gb226, 3, none⟩ = some (.bool false) := (blk_cell BK226.out 3).trans rfl; have hcz23_4 : w21.cell? ⟨gb226, 4, none⟩ = some (.bool false) := (blk_cell BK226.out 4).trans rfl; have hcz23_5 : w21.cell? ⟨gb226, 5, none⟩ = some (.bool false) := (blk_cell BK226.out 5).trans rfl; have hcz23_6 : w21.cell? ⟨gb226, 6, none⟩ = some (.int .i64 0) := (blk_cell BK226.out 6).trans rfl; have hcz23_7 : w21.cell? ⟨gb226, 7, none⟩ = some (.int .i64 0) := (blk_cell BK226.out 7).trans rfl; have hcz23_8 : w21.cell? ⟨gb226, 8, none⟩ = some (.int .i64 0) := (blk_cell BK226.out 8).trans rfl; have hfz23_0 := blk_frozen BK226.out 0; have hfz23_1 := blk_frozen BK226.out 1; have hfz23_2 := blk_frozen BK226.out 2; have hfz23_3 := blk_frozen BK226.out 3; have hfz23_4 := blk_frozen BK226.out 4; have hfz23_5 := blk_frozen BK226.out 5; have hfz23_6 := blk_frozen BK226.out 6; have hfz23_7 := blk_frozen BK226.out 7; have hfz23_8 := blk_frozen BK226.out 8))
          go_loopg [6] kj4 (fun kq v6 w' => ∃ (x6_2 : Int) (x227002_2 : Int), v6 = .int .i64 x6_2 ∧ Aside0 (laws_FnValidPack.l0 kq x6_2 0 0 x227002_2 t216 t217 t218 t219 t220 t221 = some r) ∧ Aside0 (kq ≤ kj4) ∧ Aside0 (w'.heap[gb222]? = some (.cells #[.int .i64 t213, .int .i64 t214, .int .i64 t215, .bool t216, .bool t217, .bool t218, .int .i64 t219, .int .i64 t220, .int .i64 t221] 24 (0, 0))) ∧ Aside0 (w'.heap[gb226]? = some (.cells #[.int .i64 0, .int .i64 0, .int .i64 x227002_2, .bool t216, .bool t217, .bool t218, .int .i64 t219, .int .i64 t220, .int .i64 t221] 24 (0, 0))) ∧ Aside0 (Below w.heap.size w w'))
          case atStart => exact ⟨(0), (t215), (by first | rfl | (simp; done) | (simp [*]; done)), H', ⟨Nat.le_refl _⟩, ⟨by (with_reducible repeat (first | refine blk_drewN ?_ _ | refine blk_drew ?_ | refine blk_alloc ?_ _)); refine blk_far ?_ NB222_226.out _; (with_reducible repeat (first | refine blk_drewN ?_ _ | refine blk_drew ?_ | refine blk_alloc ?_ _)); refine blk_far ?_ NB222_226.out _; (with_reducible repeat (first | refine blk_drewN ?_ _ | refine blk_drew ?_ | refine blk_alloc ?_ _)); refine blk_far ?_ NB222_226.out _; (with_reducible repeat (first | refine blk_drewN ?_ _ | refine blk_drew ?_ | refine blk_alloc ?_ _)); refine blk_far ?_ NB222_226.out _; (with_reducible repeat (first | refine blk_drewN ?_ _ | refine blk_drew ?_ | refine blk_alloc ?_ _)); refine blk_far ?_ NB222_226.out _; (with_reducible repeat (first | refine blk_drewN ?_ _ | refine blk_drew ?_ | refine blk_alloc ?_ _)); refine blk_far ?_ NB222_226.out _; (with_reducible repeat (first | refine blk_drewN ?_ _ | refine blk_drew ?_ | refine blk_alloc ?_ _)); refine blk_far ?_ NB222_226.out _; (with_reducible repeat (first | refine blk_drewN ?_ _ | refine blk_drew ?_ | refine blk_alloc ?_ _)); refine blk_far ?_ NB222_226.out _; (with_reducible repeat (first | refine blk_drewN ?_ _ | refine blk_drew ?_ | refine blk_alloc ?_ _)); refine blk_far ?_ NB222_226.out _; (with_reducible repeat (first | refine blk_drewN ?_ _ | refine blk_drew ?_ | refine blk_alloc ?_ _)); refine blk_far ?_ NB222_226.out _; (with_reducible repeat (first | refine blk_drewN ?_ _ | refine blk_drew ?_ | refine blk_alloc ?_ _)); refine blk_far ?_ NB222_226.out _; (with_reducible repeat (first | refine blk_drewN ?_ _ | refine blk_drew ?_ | refine blk_alloc ?_ _)); exact BK222.out⟩, ⟨by (with_reducible repeat (first | refine blk_drewN ?_ _ | refine blk_drew ?_ | refine blk_alloc ?_ _)); refine blk_put (cs := #[.int .i64 0, .int .i64 t214, .int .i64 t215, .bool t216, .bool t217, .bool t218, .int .i64 t219, .int .i64 t220, .int .i64 t221]) ?_ 1 _ rfl; (with_reducible repeat (first | refine blk_drewN ?_ _ | refine blk_drew ?_ | refine blk_alloc ?_ _)); refine blk_put (cs := #[.int .i64 t213, .int .i64 t214, .int .i64 t215, .bool t216, .bool t217, .bool t218, .int .i64 t219, .int .i64 t220, .int .i64 t221]) ?_ 0 _ rfl; (with_reducible repeat (first | refine blk_drewN ?_ _ | refine blk_drew ?_ | refine blk_alloc ?_ _)); refine blk_put (cs := #[.int .i64 t213, .int .i64 t214, .int .i64 t215, .bool t216, .bool t217, .bool t218, .int .i64 t219, .int .i64 t220, .int .i64 0]) ?_ 8 _ rfl; (with_reducible repeat (first | refine blk_drewN ?_ _ | refine blk_drew ?_ | refine blk_alloc ?_ _)); refine blk_put (cs := #[.int .i64 t213, .int .i64 t214, .int .i64 t215, .bool t216, .bool t217, .bool t218, .int .i64 t219, .int .i64 0, .int .i64 0]) ?_ 7 _ rfl; (with_reducible repeat (first | refine blk_drewN ?_ _ | refine blk_drew ?_ | refine blk_alloc ?_ _)); refine blk_put (cs := #[.int .i64 t213, .int .i64 t214, .int .i64 t215, .bool t216, .bool t217, .bool t218, .int .i64 0, .int .i64 0, .int .i64 0]) ?_ 6 _ rfl; (with_reducible repeat (first | refine blk_drewN ?_ _ | refine blk_drew ?_ | refine blk_alloc ?_ _)); refine blk_put (cs := #[.int .i64 t213, .int .i64 t214, .int .i64 t215, .bool t216, .bool t217, .bool false, .int .i64 0, .int .i64 0, .int .i64 0]) ?_ 5 _ rfl; (with_reducible repeat (first | refine blk_drewN ?_ _ | refine blk_drew ?_ | refine blk_alloc ?_ _)); refine blk_put (cs := #[.int .i64 t213, .int .i64 t214, .int .i64 t215, .bool t216, .bool false, .bool false, .int .i64 0, .int .i64 0, .int .i64 0]) ?_ 4 _ rfl; (with_reducible repeat (first | refine blk_drewN ?_ _ | refine blk_drew ?_ | refine blk_alloc ?_ _)); refine blk_put (cs := #[.int .i64 t213, .int .i64 t214, .int .i64 t215, .bool false, .bool false, .bool false, .int .i64 0, .int .i64 0, .int .i64 0]) ?_ 3 _ rfl; (with_reducible repeat (first | refine blk_drewN ?_ _ | refine blk_drew ?_ | refine blk_alloc ?_ _)); refine blk_put (cs := #[.int .i64 t213, .int .i64 t214, .int .i64 0, .bool false, .bool false, .bool false, .int .i64 0, .int .i64 0, .int .i64 0]) ?_ 2 _ rfl; (with_reducible repeat (first | refine blk_drewN ?_ _ | refine blk_drew ?_ | refine blk_alloc ?_ _)); refine blk_put (cs := #[.int .i64 t213, .int .i64 0, .int .i64 0, .bool false, .bool false, .bool false, .int .i64 0, .int .i64 0, .int .i64 0]) ?_ 1 _ rfl; (with_reducible repeat (first | refine blk_drewN ?_ _ | refine blk_drew ?_ | refine blk_alloc ?_ _)); refine blk_put (cs := #[.int .i64 0, .int .i64 0, .int .i64 0, .bool false, .bool false, .bool false, .int .i64 0, .int .i64 0, .int .i64 0]) ?_ 0 _ rfl; (with_reducible repeat (first | refine blk_drewN ?_ _ | refine blk_drew ?_ | refine blk_alloc ?_ _)); exact BK226.out⟩, ⟨by repeat (first | (with_reducible first | exact HB.out | apply below_alloc | apply pw_below_drewN | apply below_drew1 | refine below_set ?_ GE222.out | refine below_set ?_ GE226.out) | exact HB.out)⟩⟩
          case round =>
            clear H'
            try clear c1
            try clear c2
            try clear c2b0
            try clear c2b1
            try clear p2
            try clear c3
            try clear c11
            try clear c11b0
            try clear c11b1
            try clear c11b2
            try clear c15
            try clear c16
            try clear c17
            try clear c22
            try clear hcz12_0
            try clear hcz12_1
            try clear hcz12_2
            try clear hcz12_3
            try clear hcz12_4
            try clear hcz12_5
            try clear hcz12_6
            try clear hcz12_7
            try clear hcz12_8
            try clear hcz14_0
            try clear hcz14_1
            try clear hcz14_2
            try clear hcz14_3
            try clear hcz14_4
            try clear hcz14_5
            try clear hcz14_6
            try clear hcz14_7
            try clear hcz14_8
            try clear hcz18_0
            try clear hcz18_1
            try clear hcz18_2
            try clear hcz18_3
            try clear hcz18_4
            try clear hcz18_5
            try clear hcz18_6
            try clear hcz18_7
            try clear hcz18_8
            try clear hcz20_0
            try clear hcz20_1
            try clear hcz20_2
            try clear hcz20_3
            try clear hcz20_4
            try clear hcz20_5
            try clear hcz20_6
            try clear hcz20_7
            try clear hcz20_8
            try clear hcz23_0
            try clear hcz23_1
            try clear hcz23_2
            try clear hcz23_3
            try clear hcz23_4
            try clear hcz23_5
            try clear hcz23_6
            try clear hcz23_7
            try clear hcz23_8
            try clear hcz8_0
            try clear hcz8_1
            try clear hcz8_2
            try clear hcz8_3
            try clear hcz8_4
            try clear hcz8_5
            try clear hcz8_6
            try clear hcz8_7
            try clear hcz8_8
            try clear hfz12_0
            try clear hfz12_1
            try clear hfz12_2
            try clear hfz12_3
            try clear hfz12_4
            try clear hfz12_5
            try clear hfz12_6
            try clear hfz12_7
            try clear hfz12_8
            try clear hfz14_0
            try clear hfz14_1
            try clear hfz14_2
            try clear hfz14_3
            try clear hfz14_4
            try clear hfz14_5
            try clear hfz14_6
            try clear hfz14_7
            try clear hfz14_8
            try clear hfz18_0
            try clear hfz18_1
            try clear hfz18_2
            try clear hfz18_3
            try clear hfz18_4
            try clear hfz18_5
            try clear hfz18_6
            try clear hfz18_7
            try clear hfz18_8
            try clear hfz20_0
            try clear hfz20_1
            try clear hfz20_2
            try clear hfz20_3
            try clear hfz20_4
            try clear hfz20_5
            try clear hfz20_6
            try clear hfz20_7
            try clear hfz20_8
            try clear hfz23_0
            try clear hfz23_1
            try clear hfz23_2
            try clear hfz23_3
            try clear hfz23_4
            try clear hfz23_5
            try clear hfz23_6
            try clear hfz23_7
            try clear hfz23_8
            try clear hfz8_0
            try clear hfz8_1
            try clear hfz8_2
            try clear hfz8_3
            try clear hfz8_4
            try clear hfz8_5
            try clear hfz8_6
            try clear hfz8_7
            try clear hfz8_8
            try clear p2
            obtain ⟨x6_2, x227002_2, rfl, HA, HK2, BK222, BK226, HB⟩ := hrel
            cases gk with
            | zero => exact absurd HA.out (by simp [laws_FnValidPack.l0])
            | succ k2 =>
              have H := HA.out
              clear HA
              simp only [laws_FnValidPack.l0] at H
              by_cases c24 : x6_2 ≤ 3
              · rw [if_pos c24] at H
                have c24b0 : decide (x6_2 ≤ 3) = true := decide_eq_true c24
                clear c24
                replace H := Option.bind_eq_some_iff.mp H
                obtain ⟨t227, A250, H⟩ := H
                replace H : (if t227 = true then (laws_FnValidPack.l0 k2 (wrap64 (x6_2 + 1)) 0 0 x6_2 t216 t217 t218 t219 t220 t221) else (some false)) = some r := H
                have A25 := Aside0.mk A250
                clear A250
                by_cases c26 : t227 = true
                · subst c26
                  have H1 : (laws_FnValidPack.l0 k2 (wrap64 (x6_2 + 1)) 0 0 x6_2 t216 t217 t218 t219 t220 t221) = some r := by rw [if_pos rfl] at H; exact H
                  clear H
                  have H := H1
                  clear H1
                  have H' := Aside0.mk H
                  clear H
                  have hnb27 := NB226_222.out
                  have hnc27 := NB222_226.out
                  have hcz28_0 : wr.cell? ⟨gb226, 0, none⟩ = some (.int .i64 0) := (blk_cell BK226.out 0).trans rfl
                  have hcz28_1 : wr.cell? ⟨gb226, 1, none⟩ = some (.int .i64 0) := (blk_cell BK226.out 1).trans rfl
                  have hcz28_2 : wr.cell? ⟨gb226, 2, none⟩ = some (.int .i64 x227002_2) := (blk_cell BK226.out 2).trans rfl
                  have hcz28_3 : wr.cell? ⟨gb226, 3, none⟩ = some (.bool t216) := (blk_cell BK226.out 3).trans rfl
                  have hcz28_4 : wr.cell? ⟨gb226, 4, none⟩ = some (.bool t217) := (blk_cell BK226.out 4).trans rfl
                  have hcz28_5 : wr.cell? ⟨gb226, 5, none⟩ = some (.bool t218) := (blk_cell BK226.out 5).trans rfl
                  have hcz28_6 : wr.cell? ⟨gb226, 6, none⟩ = some (.int .i64 t219) := (blk_cell BK226.out 6).trans rfl
                  have hcz28_7 : wr.cell? ⟨gb226, 7, none⟩ = some (.int .i64 t220) := (blk_cell BK226.out 7).trans rfl
                  have hcz28_8 : wr.cell? ⟨gb226, 8, none⟩ = some (.int .i64 t221) := (blk_cell BK226.out 8).trans rfl
                  have hfz28_0 := blk_frozen BK226.out 0
                  have hfz28_1 := blk_frozen BK226.out 1
                  have hfz28_2 := blk_frozen BK226.out 2
                  have hfz28_3 := blk_frozen BK226.out 3
                  have hfz28_4 := blk_frozen BK226.out 4
                  have hfz28_5 := blk_frozen BK226.out 5
                  have hfz28_6 := blk_frozen BK226.out 6
                  have hfz28_7 := blk_frozen BK226.out 7
                  have hfz28_8 := blk_frozen BK226.out 8
                  go_wp2_with (first | ((with_reducible refine gate_callee (f := 16) rfl ?_); refine goesL_ (some 36) rfl rfl Try.func16 (by kernel_rfl) rfl #[.agg #[.int .i64 0, .int .i64 0, .int .i64 x6_2, .bool t216, .bool t217, .bool t218, .int .i64 t219, .int .i64 t220, .int .i64 t221]] rfl (by (try simp only [List.map_toArray, List.map_cons, List.map_nil]); first | done | rfl | (simp only [List.length_drop, List.length_take]; rfl)) ?_; (with_reducible refine (impl_ValidPack.calls 0 0 x6_2 t216 t217 t218 t219 t220 t221 true _ A25.out).mono ?_); rintro e w29 ⟨rfl, hb⟩; refine ⟨_, rfl, ?_⟩; have n0_ := Aside0.mk (blk_below (g := gb222) (o := .cells #[.int .i64 t213, .int .i64 t214, .int .i64 t215, .bool t216, .bool t217, .bool t218, .int .i64 t219, .int .i64 t220, .int .i64 t221] 24 (0, 0)) (by (with_reducible repeat (first | refine blk_drewN ?_ _ | refine blk_drew ?_ | refine blk_alloc ?_ _)); refine blk_far ?_ NB222_226.out _; (with_reducible repeat (first | refine blk_drewN ?_ _ | refine blk_drew ?_ | refine blk_alloc ?_ _)); exact BK222.out) hb); have n1_ := Aside0.mk (blk_below (g := gb226) (o := .cells #[.int .i64 0, .int .i64 0, .int .i64 x6_2, .bool t216, .bool t217, .bool t218, .int .i64 t219, .int .i64 t220, .int .i64 t221] 24 (0, 0)) (by (with_reducible repeat (first | refine blk_drewN ?_ _ | refine blk_drew ?_ | refine blk_alloc ?_ _)); refine blk_put (cs := #[.int .i64 0, .int .i64 0, .int .i64 x227002_2, .bool t216, .bool t217, .bool t218, .int .i64 t219, .int .i64 t220, .int .i64 t221]) ?_ 2 _ rfl; (with_reducible repeat (first | refine blk_drewN ?_ _ | refine blk_drew ?_ | refine blk_alloc ?_ _)); exact BK226.out) hb); have n2_ := Aside0.mk (below_step (by repeat (first | (with_reducible first | exact HB.out | apply below_alloc | apply pw_below_drewN | apply below_drew1 | refine below_set ?_ GE222.out | refine below_set ?_ GE226.out) | exact HB.out)) hb); clear BK222; clear BK226; clear HB; have BK222 := n0_; have BK226 := n1_; have HB := n2_; clear n0_ n1_ n2_; (try clear hb); (try clear hb2); (try clear hk); (try clear hi)))
                  go_roundg k2
                  case measure => have := HJ4.out; have := HK2.out; omega
                  case rel => exact ⟨(wrap64 (x6_2 + 1)), (x6_2), (by first | rfl | (simp; done) | (simp [*]; done)), H', ⟨by have := HJ4.out; have := HK2.out; omega⟩, ⟨by (with_reducible repeat (first | refine blk_drewN ?_ _ | refine blk_drew ?_ | refine blk_alloc ?_ _)); exact BK222.out⟩, ⟨by (with_reducible repeat (first | refine blk_drewN ?_ _ | refine blk_drew ?_ | refine blk_alloc ?_ _)); exact BK226.out⟩, ⟨by repeat (first | (with_reducible first | exact HB.out | apply below_alloc | apply pw_below_drewN | apply below_drew1 | refine below_set ?_ GE222.out | refine below_set ?_ GE226.out) | exact HB.out)⟩⟩
                · replace c26 := Bool.eq_false_iff.mpr c26
                  subst c26
                  have H1 : (some false) = some r := by rw [if_neg (show ¬ (false = true) by decide)] at H; exact H
                  clear H
                  have H := H1
                  clear H1
                  obtain rfl := Option.some.inj H
                  have hnb30 := NB226_222.out
                  have hnc30 := NB222_226.out
                  have hcz31_0 : wr.cell? ⟨gb226, 0, none⟩ = some (.int .i64 0) := (blk_cell BK226.out 0).trans rfl
                  have hcz31_1 : wr.cell? ⟨gb226, 1, none⟩ = some (.int .i64 0) := (blk_cell BK226.out 1).trans rfl
                  have hcz31_2 : wr.cell? ⟨gb226, 2, none⟩ = some (.int .i64 x227002_2) := (blk_cell BK226.out 2).trans rfl
                  have hcz31_3 : wr.cell? ⟨gb226, 3, none⟩ = some (.bool t216) := (blk_cell BK226.out 3).trans rfl
                  have hcz31_4 : wr.cell? ⟨gb226, 4, none⟩ = some (.bool t217) := (blk_cell BK226.out 4).trans rfl
                  have hcz31_5 : wr.cell? ⟨gb226, 5, none⟩ = some (.bool t218) := (blk_cell BK226.out 5).trans rfl
                  have hcz31_6 : wr.cell? ⟨gb226, 6, none⟩ = some (.int .i64 t219) := (blk_cell BK226.out 6).trans rfl
                  have hcz31_7 : wr.cell? ⟨gb226, 7, none⟩ = some (.int .i64 t220) := (blk_cell BK226.out 7).trans rfl
                  have hcz31_8 : wr.cell? ⟨gb226, 8, none⟩ = some (.int .i64 t221) := (blk_cell BK226.out 8).trans rfl
                  have hfz31_0 := blk_frozen BK226.out 0
                  have hfz31_1 := blk_frozen BK226.out 1
                  have hfz31_2 := blk_frozen BK226.out 2
                  have hfz31_3 := blk_frozen BK226.out 3
                  have hfz31_4 := blk_frozen BK226.out 4
                  have hfz31_5 := blk_frozen BK226.out 5
                  have hfz31_6 := blk_frozen BK226.out 6
                  have hfz31_7 := blk_frozen BK226.out 7
                  have hfz31_8 := blk_frozen BK226.out 8
                  go_wp2_with (first | ((with_reducible refine gate_callee (f := 16) rfl ?_); refine goesL_ (some 36) rfl rfl Try.func16 (by kernel_rfl) rfl #[.agg #[.int .i64 0, .int .i64 0, .int .i64 x6_2, .bool t216, .bool t217, .bool t218, .int .i64 t219, .int .i64 t220, .int .i64 t221]] rfl (by (try simp only [List.map_toArray, List.map_cons, List.map_nil]); first | done | rfl | (simp only [List.length_drop, List.length_take]; rfl)) ?_; (with_reducible refine (impl_ValidPack.calls 0 0 x6_2 t216 t217 t218 t219 t220 t221 false _ A25.out).mono ?_); rintro e w32 ⟨rfl, hb⟩; refine ⟨_, rfl, ?_⟩; have n0_ := Aside0.mk (blk_below (g := gb222) (o := .cells #[.int .i64 t213, .int .i64 t214, .int .i64 t215, .bool t216, .bool t217, .bool t218, .int .i64 t219, .int .i64 t220, .int .i64 t221] 24 (0, 0)) (by (with_reducible repeat (first | refine blk_drewN ?_ _ | refine blk_drew ?_ | refine blk_alloc ?_ _)); refine blk_far ?_ NB222_226.out _; (with_reducible repeat (first | refine blk_drewN ?_ _ | refine blk_drew ?_ | refine blk_alloc ?_ _)); exact BK222.out) hb); have n1_ := Aside0.mk (blk_below (g := gb226) (o := .cells #[.int .i64 0, .int .i64 0, .int .i64 x6_2, .bool t216, .bool t217, .bool t218, .int .i64 t219, .int .i64 t220, .int .i64 t221] 24 (0, 0)) (by (with_reducible repeat (first | refine blk_drewN ?_ _ | refine blk_drew ?_ | refine blk_alloc ?_ _)); refine blk_put (cs := #[.int .i64 0, .int .i64 0, .int .i64 x227002_2, .bool t216, .bool t217, .bool t218, .int .i64 t219, .int .i64 t220, .int .i64 t221]) ?_ 2 _ rfl; (with_reducible repeat (first | refine blk_drewN ?_ _ | refine blk_drew ?_ | refine blk_alloc ?_ _)); exact BK226.out) hb); have n2_ := Aside0.mk (below_step (by repeat (first | (with_reducible first | exact HB.out | apply below_alloc | apply pw_below_drewN | apply below_drew1 | refine below_set ?_ GE222.out | refine below_set ?_ GE226.out) | exact HB.out)) hb); clear BK222; clear BK226; clear HB; have BK222 := n0_; have BK226 := n1_; have HB := n2_; clear n0_ n1_ n2_; (try clear hb); (try clear hb2); (try clear hk); (try clear hi)))
                  go_ret
                  exact ⟨by first | rfl | (simp [errW_none, errW_some] <;> rfl) | (simp [*, errW_none, errW_some] <;> rfl), by repeat (first | (with_reducible first | exact HB.out | apply below_alloc | apply pw_below_drewN | apply below_drew1 | refine below_set ?_ GE222.out | refine below_set ?_ GE226.out) | exact HB.out)⟩
              · rw [if_neg c24] at H
                have c24b0 : decide (x6_2 ≤ 3) = false := decide_eq_false c24
                clear c24
                obtain rfl := Option.some.inj H
                go_wp2
                go_ret
                exact ⟨by first | rfl | (simp [errW_none, errW_some] <;> rfl) | (simp [*, errW_none, errW_some] <;> rfl), by repeat (first | (with_reducible first | exact HB.out | apply below_alloc | apply pw_below_drewN | apply below_drew1 | refine below_set ?_ GE222.out | refine below_set ?_ GE226.out) | exact HB.out)⟩

/-- THE ONE PURE STATEMENT of laws_FnValidPack: yours. -/
def laws_FnValidPack.Pure : Prop := ∀ (l0 : List Int), l0.length ≤ maxLen → l0.length * 1 ≤ 140737488351232 → (∀ x ∈ l0, (Lit.int .u8 x).wf = true) → ∃ k, laws_FnValidPack.f k l0 = some true
theorem laws_FnValidPack.walk (P : laws_FnValidPack.Pure) (a0 : Option Addr) (len0 cap0 : Nat) (z0 : List Int) (w : World) (w0 : (a0 = none ∧ len0 = 0 ∧ cap0 = 0 ∧ z0 = []) ∨ ∃ x, a0 = some x ∧ len0 ≤ cap0 ∧ cap0 ≤ maxLen ∧ z0.length = cap0 ∧ (∀ i, i < z0.length → w.cell? (x.add i) = some (.int .u8 (z0.getD i 0))) ∧ ∀ n ∈ z0, (Lit.int .u8 n).wf = true) (y0 : len0 * 1 ≤ 140737488351232) :
    Calls Try.prog 3 #[.slice a0 len0 cap0] w fun e w' => e = .returned (.bool true) ∧ Below w.heap.size w w' := by
  obtain ⟨l0, rfl, hr0, hm0, hw0, hc0⟩ := ReadsInt.ofRowC w0
  obtain ⟨k, h⟩ := P l0 hm0 y0 hw0
  refine (laws_FnValidPack.calls k _ _ l0 true w (Kd.C_of_reads (d := (0 : Int)) (h1 := fun _ => rfl) hr0) hc0 h).mono ?_
  rintro e w' ⟨rfl, hd⟩
  exact ⟨rfl, hd⟩

end Go.Proofs.Ytddbpljldinllaa.PFnValidPack
