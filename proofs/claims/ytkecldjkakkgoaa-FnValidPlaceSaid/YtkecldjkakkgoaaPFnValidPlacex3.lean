-- PRINTED BY print.sh 35421559b90ae4d0a3588c463048766b98c2df88dd9212a6774a882060cdf62d: not written by this session
import Derived.Test.YtkecldjkakkgoaaPFnValidPlacex0
import Derived.Test.YtkecldjkakkgoaaPFnValidPlacex1
import Derived.Test.YtkecldjkakkgoaaPFnValidPlacex2
namespace Go.Proofs.Ytkecldjkakkgoaa.PFnValidPlace
open Go.RowKit Go.Proofs.YtkecldjkakkgoaaW.PrintWords Go.Proofs.YtkecldjkakkgoaaW.PrintLast Go.Proofs.YtkecldjkakkgoaaW.PrintMore
attribute [local go_sem] max2_int min2_int max_two min_two max_three min_three max_four min_four   -- for this text's walks alone
set_option linter.unusedVariables false
set_option linter.unusedSimpArgs false

/-! ### laws_FnValidPlace: function 12 -/
mutual
def laws_FnValidPlace.j0 : Nat → Bool → Bool → Int → Int → Int → Int → Int → Int → Int → Int → Int → Option (Bool)
  | 0, _, _, _, _, _, _, _, _, _, _, _ => none
  | k + 1, x4, x20, x237000, x237001, x237002, x237003, x237004, x237005, x237006, x237007, x237008 => if x20 = true then ((spec_ValidPlace.f x237000 x237001 x237002 x237003 x237004 x237005 x237006 x237007 x237008).bind fun t239 => (some (x4 == t239))) else (laws_FnValidPlace.l0 k 0 x237000 x237001 x237002 x237003 x237004 x237005 x237006 x237007 x237008)
def laws_FnValidPlace.l0 : Nat → Int → Int → Int → Int → Int → Int → Int → Int → Int → Int → Option (Bool)
  | 0, _, _, _, _, _, _, _, _, _, _ => none
  | k + 1, x5, x237000, x237001, x237002, x237003, x237004, x237005, x237006, x237007, x237008 => if x5 ≤ 8 then ((impl_ValidPlace.f k x237000 x237001 x237002 x237003 x237004 x237005 x237006 x237007 x5).bind fun t240 => (if t240 = true then (laws_FnValidPlace.l0 k (wrap64 (x5 + 1)) x237000 x237001 x237002 x237003 x237004 x237005 x237006 x237007 x5) else (some false))) else (some true)
end
def laws_FnValidPlace.f (k : Nat) (l0 : List Int) : Option (Bool) := if (l0.length : Int) > 1048576 then (some true) else ((spec_DrawValidPlace.f k l0).bind fun bt227 => ((impl_ValidPlace.f k bt227.1 bt227.2.1 bt227.2.2.1 bt227.2.2.2.1 bt227.2.2.2.2.1 bt227.2.2.2.2.2.1 bt227.2.2.2.2.2.2.1 bt227.2.2.2.2.2.2.2.1 bt227.2.2.2.2.2.2.2.2).bind fun t237 => ((spec_ValidPlace.f bt227.1 bt227.2.1 bt227.2.2.1 bt227.2.2.2.1 bt227.2.2.2.2.1 bt227.2.2.2.2.2.1 bt227.2.2.2.2.2.2.1 bt227.2.2.2.2.2.2.2.1 bt227.2.2.2.2.2.2.2.2).bind fun t238 => (if (t237 != t238) = true then (laws_FnValidPlace.j0 k t237 true bt227.1 bt227.2.1 bt227.2.2.1 bt227.2.2.2.1 bt227.2.2.2.2.1 bt227.2.2.2.2.2.1 bt227.2.2.2.2.2.2.1 bt227.2.2.2.2.2.2.2.1 bt227.2.2.2.2.2.2.2.2) else (laws_FnValidPlace.j0 k t237 (!t237) bt227.1 bt227.2.1 bt227.2.2.1 bt227.2.2.2.1 bt227.2.2.2.2.1 bt227.2.2.2.2.2.1 bt227.2.2.2.2.2.2.1 bt227.2.2.2.2.2.2.2.1 bt227.2.2.2.2.2.2.2.2)))))
theorem laws_FnValidPlace.mono_l : ∀ k, (∀ y0 y1 y2 y3 y4 y5 y6 y7 y8 y9 y10, LeO (laws_FnValidPlace.j0 k y0 y1 y2 y3 y4 y5 y6 y7 y8 y9 y10) (laws_FnValidPlace.j0 (k + 1) y0 y1 y2 y3 y4 y5 y6 y7 y8 y9 y10)) ∧ (∀ y0 y1 y2 y3 y4 y5 y6 y7 y8 y9, LeO (laws_FnValidPlace.l0 k y0 y1 y2 y3 y4 y5 y6 y7 y8 y9) (laws_FnValidPlace.l0 (k + 1) y0 y1 y2 y3 y4 y5 y6 y7 y8 y9))
  | 0 => ⟨fun _ _ _ _ _ _ _ _ _ _ _ r h => by simp [laws_FnValidPlace.j0] at h, fun _ _ _ _ _ _ _ _ _ _ r h => by simp [laws_FnValidPlace.l0] at h⟩
  | k + 1 => by
    obtain ⟨ih0, ih1⟩ := laws_FnValidPlace.mono_l k
    refine ⟨?_, ?_⟩
    · intro y0 y1 y2 y3 y4 y5 y6 y7 y8 y9 y10
      unfold laws_FnValidPlace.j0
      repeat' first
      | (with_reducible exact ih0 _ _ _ _ _ _ _ _ _ _ _)
      | (with_reducible exact ih1 _ _ _ _ _ _ _ _ _ _)
      | (with_reducible exact impl_ValidPlace.mono _ _ _ _ _ _ _ _ _ _)
      | (with_reducible exact spec_DrawValidPlace.mono _ _)
      | (with_reducible exact LeO.refl _)
      | (with_reducible exact LeO.none _)
      | (with_reducible refine LeO.ite ?_ ?_)
      | (with_reducible refine LeO.bind ?_ (fun _ => ?_))
      | exact ih0 _ _ _ _ _ _ _ _ _ _ _
      | exact ih1 _ _ _ _ _ _ _ _ _ _
      | exact impl_ValidPlace.mono _ _ _ _ _ _ _ _ _ _
      | exact spec_DrawValidPlace.mono _ _
      | exact LeO.none _
      | refine LeO.ite ?_ ?_
      | refine LeO.bind ?_ (fun _ => ?_)
    · intro y0 y1 y2 y3 y4 y5 y6 y7 y8 y9
      unfold laws_FnValidPlace.l0
      repeat' first
      | (with_reducible exact ih0 _ _ _ _ _ _ _ _ _ _ _)
      | (with_reducible exact ih1 _ _ _ _ _ _ _ _ _ _)
      | (with_reducible exact impl_ValidPlace.mono _ _ _ _ _ _ _ _ _ _)
      | (with_reducible exact spec_DrawValidPlace.mono _ _)
      | (with_reducible exact LeO.refl _)
      | (with_reducible exact LeO.none _)
      | (with_reducible refine LeO.ite ?_ ?_)
      | (with_reducible refine LeO.bind ?_ (fun _ => ?_))
      | exact ih0 _ _ _ _ _ _ _ _ _ _ _
      | exact ih1 _ _ _ _ _ _ _ _ _ _
      | exact impl_ValidPlace.mono _ _ _ _ _ _ _ _ _ _
      | exact spec_DrawValidPlace.mono _ _
      | exact LeO.none _
      | refine LeO.ite ?_ ?_
      | refine LeO.bind ?_ (fun _ => ?_)
theorem laws_FnValidPlace.mono : ∀ a0 k, LeO (laws_FnValidPlace.f k a0) (laws_FnValidPlace.f (k + 1) a0) := by
  intro a0 k
  obtain ⟨ih0, ih1⟩ := laws_FnValidPlace.mono_l k
  unfold laws_FnValidPlace.f
  repeat' first
      | (with_reducible exact ih0 _ _ _ _ _ _ _ _ _ _ _)
      | (with_reducible exact ih1 _ _ _ _ _ _ _ _ _ _)
      | (with_reducible exact impl_ValidPlace.mono _ _ _ _ _ _ _ _ _ _)
      | (with_reducible exact spec_DrawValidPlace.mono _ _)
      | (with_reducible exact LeO.refl _)
      | (with_reducible exact LeO.none _)
      | (with_reducible refine LeO.ite ?_ ?_)
      | (with_reducible refine LeO.bind ?_ (fun _ => ?_))
      | exact ih0 _ _ _ _ _ _ _ _ _ _ _
      | exact ih1 _ _ _ _ _ _ _ _ _ _
      | exact impl_ValidPlace.mono _ _ _ _ _ _ _ _ _ _
      | exact spec_DrawValidPlace.mono _ _
      | exact LeO.none _
      | refine LeO.ite ?_ ?_
      | refine LeO.bind ?_ (fun _ => ?_)
set_option maxHeartbeats 8000000 in
set_option maxRecDepth 100000 in
theorem laws_FnValidPlace.calls (k : Nat) (A0 : Option Addr) (c0 : Nat) (l0 : List Int) (r : Bool) (w : World) (hr0 : Kd.C (Kd.int .u8) w A0 l0.length l0) (hc0 : l0.length ≤ c0) (h : laws_FnValidPlace.f k l0 = some r) :
    Calls Try.prog 12 #[.slice A0 l0.length c0] w fun e w' => e = .returned (.bool r) ∧ Below w.heap.size w w' := by
  have hu58 := Try.underlying58
  have HR0 := Aside0.mk hr0
  have HC0 := Aside0.mk hc0
  clear hr0 hc0
  have HB := Aside0.mk (Below.refl w.heap.size w)
  have H : (if (l0.length : Int) > 1048576 then (some true) else ((spec_DrawValidPlace.f k l0).bind fun bt227 => ((impl_ValidPlace.f k bt227.1 bt227.2.1 bt227.2.2.1 bt227.2.2.2.1 bt227.2.2.2.2.1 bt227.2.2.2.2.2.1 bt227.2.2.2.2.2.2.1 bt227.2.2.2.2.2.2.2.1 bt227.2.2.2.2.2.2.2.2).bind fun t237 => ((spec_ValidPlace.f bt227.1 bt227.2.1 bt227.2.2.1 bt227.2.2.2.1 bt227.2.2.2.2.1 bt227.2.2.2.2.2.1 bt227.2.2.2.2.2.2.1 bt227.2.2.2.2.2.2.2.1 bt227.2.2.2.2.2.2.2.2).bind fun t238 => (if (t237 != t238) = true then (laws_FnValidPlace.j0 k t237 true bt227.1 bt227.2.1 bt227.2.2.1 bt227.2.2.2.1 bt227.2.2.2.2.1 bt227.2.2.2.2.2.1 bt227.2.2.2.2.2.2.1 bt227.2.2.2.2.2.2.2.1 bt227.2.2.2.2.2.2.2.2) else (laws_FnValidPlace.j0 k t237 (!t237) bt227.1 bt227.2.1 bt227.2.2.1 bt227.2.2.2.1 bt227.2.2.2.2.1 bt227.2.2.2.2.2.1 bt227.2.2.2.2.2.2.1 bt227.2.2.2.2.2.2.2.1 bt227.2.2.2.2.2.2.2.2)))))) = some r := h
  clear h
  by_cases c2 : (l0.length : Int) > 1048576
  · rw [if_pos c2] at H
    have c2b0 : decide (1048576 < (l0.length : Int)) = true := decide_eq_true c2
    have c2b1 : decide (1048576 < l0.length) = true := decide_eq_true (by omega)
    clear c2
    obtain rfl := Option.some.inj H
    go_enter Try.func12, Try.ntmps12
    go_wp2
    go_ret
    exact ⟨by first | rfl | (simp [errW_none, errW_some] <;> rfl) | (simp [*, errW_none, errW_some] <;> rfl), by repeat (first | (with_reducible first | exact HB.out | apply below_alloc | apply pw_below_drewN | apply below_drew1) | exact HB.out)⟩
  · rw [if_neg c2] at H
    have c2b0 : decide (1048576 < (l0.length : Int)) = false := decide_eq_false c2
    have c2b1 : decide (1048576 < l0.length) = false := decide_eq_false (by omega)
    clear c2
    replace H := Option.bind_eq_some_iff.mp H
    obtain ⟨⟨t227, t228, t229, t230, t231, t232, t233, t234, t235⟩, A30, H⟩ := H
    replace H : ((impl_ValidPlace.f k t227 t228 t229 t230 t231 t232 t233 t234 t235).bind fun t237 => ((spec_ValidPlace.f t227 t228 t229 t230 t231 t232 t233 t234 t235).bind fun t238 => (if (t237 != t238) = true then (laws_FnValidPlace.j0 k t237 true t227 t228 t229 t230 t231 t232 t233 t234 t235) else (laws_FnValidPlace.j0 k t237 (!t237) t227 t228 t229 t230 t231 t232 t233 t234 t235)))) = some r := H
    have A3 := Aside0.mk A30
    clear A30
    replace H := Option.bind_eq_some_iff.mp H
    obtain ⟨t237, A40, H⟩ := H
    replace H : ((spec_ValidPlace.f t227 t228 t229 t230 t231 t232 t233 t234 t235).bind fun t238 => (if (t237 != t238) = true then (laws_FnValidPlace.j0 k t237 true t227 t228 t229 t230 t231 t232 t233 t234 t235) else (laws_FnValidPlace.j0 k t237 (!t237) t227 t228 t229 t230 t231 t232 t233 t234 t235))) = some r := H
    have A4 := Aside0.mk A40
    clear A40
    have HC5 := Aside0.mk H
    clear H
    go_enter Try.func12, Try.ntmps12
    go_upto_region 5 with (first | ((with_reducible refine gate_callee (f := 45) rfl ?_); refine goesL_ (some 10) rfl rfl Try.func45 (by kernel_rfl) rfl #[.slice A0 l0.length c0] rfl (by (try simp only [List.map_toArray, List.map_cons, List.map_nil]); first | done | rfl | (simp only [List.length_drop, List.length_take]; rfl)) ?_; (with_reducible refine (spec_DrawValidPlace.calls k _ _ l0 t227 t228 t229 t230 t231 t232 t233 t234 t235 _ ?side1 ?side2 A3.out).mono ?_); (case side1 => repeat (first | exact HR0.out | (with_reducible refine Kd.C_alloc ?_ _) | (with_reducible refine Kd.C_drewN ?_ _) | (with_reducible refine Kd.C_drew ?_))); (case side2 => exact HC0.out); rintro e w6 ⟨rfl, hb⟩; refine ⟨_, rfl, ?_⟩; have n0_ := Aside0.mk (below_step (by repeat (first | (with_reducible first | exact HB.out | apply below_alloc | apply pw_below_drewN | apply below_drew1) | exact HB.out)) hb); clear HB; have HB := n0_; clear n0_; (try clear hb); (try clear hb2); (try clear hk); (try clear hi)) | ((with_reducible refine gate_dst (N := 3) rfl ?_); refine box_event ?hg (N := 3) ?hd (cs := #[.int .i64 0, .int .i64 0, .int .i64 0, .int .i64 0, .int .i64 0, .int .i64 0, .int .i64 0, .int .i64 0, .int .i64 0]) (t := 58) ?hr ?_; (case hd => rfl); (case hg => rfl); (case hr => first | (go_simp; done) | (go_simp; rfl)); intro gb236 hg w7 hbox hb; have n0_ := Aside0.mk (below_step (by repeat (first | (with_reducible first | exact HB.out | apply below_alloc | apply pw_below_drewN | apply below_drew1) | exact HB.out)) hb); have n1_ := Aside0.mk (hbox); have n2_ := Aside0.mk ((by rw [hg]; exact (below_size (by repeat (first | (with_reducible first | exact HB.out | apply below_alloc | apply pw_below_drewN | apply below_drew1) | exact HB.out))) : w.heap.size ≤ gb236)); have n3_ := Aside0.mk ((by rw [hg]; exact (below_size (by repeat (first | (with_reducible first | exact HB.out | apply below_alloc | apply pw_below_drewN | apply below_drew1) | exact HB.out))) : w.heap.size ≤ gb236)); clear HB; have HB := n0_; have BK236 := n1_; have GW236 := n2_; have GE236 := n3_; clear n0_ n1_ n2_ n3_; clear hb hbox hg; have hcz8_0 : w7.cell? ⟨gb236, 0, none⟩ = some (.int .i64 0) := (blk_cell BK236.out 0).trans rfl; have hcz8_1 : w7.cell? ⟨gb236, 1, none⟩ = some (.int .i64 0) := (blk_cell BK236.out 1).trans rfl; have hcz8_2 : w7.cell? ⟨gb236, 2, none⟩ = some (.int .i64 0) := (blk_cell BK236.out 2).trans rfl; have hcz8_3 : w7.cell? ⟨gb236, 3, none⟩ = some (.int .i64 0) := (blk_cell BK236.out 3).trans rfl; have hcz8_4 : w7.cell? ⟨gb236, 4, none⟩ = some (.int .i64 0) := (blk_cell BK236.out 4).trans rfl; have hcz8_5 : w7.cell? ⟨gb236, 5, none⟩ = some (.int .i64 0) := (blk_cell BK236.out 5).trans rfl; have hcz8_6 : w7.cell? ⟨gb236, 6, none⟩ = some (.int .i64 0) := (blk_cell BK236.out 6).trans rfl; have hcz8_7 : w7.cell? ⟨gb236, 7, none⟩ = some (.int .i64 0) := (blk_cell BK236.out 7).trans rfl; have hcz8_8 : w7.cell? ⟨gb236, 8, none⟩ = some (.int .i64 0) := (blk_cell BK236.out 8).trans rfl; have hfz8_0 := blk_frozen BK236.out 0; have hfz8_1 := blk_frozen BK236.out 1; have hfz8_2 := blk_frozen BK236.out 2; have hfz8_3 := blk_frozen BK236.out 3; have hfz8_4 := blk_frozen BK236.out 4; have hfz8_5 := blk_frozen BK236.out 5; have hfz8_6 := blk_frozen BK236.out 6; have hfz8_7 := blk_frozen BK236.out 7; have hfz8_8 := blk_frozen BK236.out 8) | ((with_reducible refine gate_callee (f := 46) rfl ?_); refine goesL_ (some 12) rfl rfl Try.func46 (by kernel_rfl) rfl #[.agg #[.int .i64 t227, .int .i64 t228, .int .i64 t229, .int .i64 t230, .int .i64 t231, .int .i64 t232, .int .i64 t233, .int .i64 t234, .int .i64 t235]] rfl (by (try simp only [List.map_toArray, List.map_cons, List.map_nil]); first | done | rfl | (simp only [List.length_drop, List.length_take]; rfl)) ?_; (with_reducible refine (impl_ValidPlace.calls k t227 t228 t229 t230 t231 t232 t233 t234 t235 t237 _ A4.out).mono ?_); rintro e w9 ⟨rfl, hb⟩; refine ⟨_, rfl, ?_⟩; have n0_ := Aside0.mk (blk_below (g := gb236) (o := .cells #[.int .i64 t227, .int .i64 t228, .int .i64 t229, .int .i64 t230, .int .i64 t231, .int .i64 t232, .int .i64 t233, .int .i64 t234, .int .i64 t235] 58 (0, 0)) (by (with_reducible repeat (first | refine blk_drewN ?_ _ | refine blk_drew ?_ | refine blk_alloc ?_ _)); refine blk_put (cs := #[.int .i64 t227, .int .i64 t228, .int .i64 t229, .int .i64 t230, .int .i64 t231, .int .i64 t232, .int .i64 t233, .int .i64 t234, .int .i64 0]) ?_ 8 _ rfl; (with_reducible repeat (first | refine blk_drewN ?_ _ | refine blk_drew ?_ | refine blk_alloc ?_ _)); refine blk_put (cs := #[.int .i64 t227, .int .i64 t228, .int .i64 t229, .int .i64 t230, .int .i64 t231, .int .i64 t232, .int .i64 t233, .int .i64 0, .int .i64 0]) ?_ 7 _ rfl; (with_reducible repeat (first | refine blk_drewN ?_ _ | refine blk_drew ?_ | refine blk_alloc ?_ _)); refine blk_put (cs := #[.int .i64 t227, .int .i64 t228, .int .i64 t229, .int .i64 t230, .int .i64 t231, .int .i64 t232, .int .i64 0, .int .i64 0, .int .i64 0]) ?_ 6 _ rfl; (with_reducible repeat (first | refine blk_drewN ?_ _ | refine blk_drew ?_ | refine blk_alloc ?_ _)); refine blk_put (cs := #[.int .i64 t227, .int .i64 t228, .int .i64 t229, .int .i64 t230, .int .i64 t231, .int .i64 0, .int .i64 0, .int .i64 0, .int .i64 0]) ?_ 5 _ rfl; (with_reducible repeat (first | refine blk_drewN ?_ _ | refine blk_drew ?_ | refine blk_alloc ?_ _)); refine blk_put (cs := #[.int .i64 t227, .int .i64 t228, .int .i64 t229, .int .i64 t230, .int .i64 0, .int .i64 0, .int .i64 0, .int .i64 0, .int .i64 0]) ?_ 4 _ rfl; (with_reducible repeat (first | refine blk_drewN ?_ _ | refine blk_drew ?_ | refine blk_alloc ?_ _)); refine blk_put (cs := #[.int .i64 t227, .int .i64 t228, .int .i64 t229, .int .i64 0, .int .i64 0, .int .i64 0, .int .i64 0, .int .i64 0, .int .i64 0]) ?_ 3 _ rfl; (with_reducible repeat (first | refine blk_drewN ?_ _ | refine blk_drew ?_ | refine blk_alloc ?_ _)); refine blk_put (cs := #[.int .i64 t227, .int .i64 t228, .int .i64 0, .int .i64 0, .int .i64 0, .int .i64 0, .int .i64 0, .int .i64 0, .int .i64 0]) ?_ 2 _ rfl; (with_reducible repeat (first | refine blk_drewN ?_ _ | refine blk_drew ?_ | refine blk_alloc ?_ _)); refine blk_put (cs := #[.int .i64 t227, .int .i64 0, .int .i64 0, .int .i64 0, .int .i64 0, .int .i64 0, .int .i64 0, .int .i64 0, .int .i64 0]) ?_ 1 _ rfl; (with_reducible repeat (first | refine blk_drewN ?_ _ | refine blk_drew ?_ | refine blk_alloc ?_ _)); refine blk_put (cs := #[.int .i64 0, .int .i64 0, .int .i64 0, .int .i64 0, .int .i64 0, .int .i64 0, .int .i64 0, .int .i64 0, .int .i64 0]) ?_ 0 _ rfl; (with_reducible repeat (first | refine blk_drewN ?_ _ | refine blk_drew ?_ | refine blk_alloc ?_ _)); exact BK236.out) hb); have n1_ := Aside0.mk (below_step (by repeat (first | (with_reducible first | exact HB.out | apply below_alloc | apply pw_below_drewN | apply below_drew1 | refine below_set ?_ GE236.out) | exact HB.out)) hb); clear BK236; clear HB; have BK236 := n0_; have HB := n1_; clear n0_ n1_; (try clear hb); (try clear hb2); (try clear hk); (try clear hi)))
    (try simp only [Act.put, List.setIfInBounds_toArray, List.set_cons_zero, List.set_cons_succ])
    go_cut [20] (fun v20 wc => ∃ (kq : Nat) (x20_4 : Bool), v20 = .bool x20_4 ∧ Aside0 (laws_FnValidPlace.j0 kq t237 x20_4 t227 t228 t229 t230 t231 t232 t233 t234 t235 = some r) ∧ Aside0 (kq ≤ k) ∧ Aside0 (wc.heap[gb236]? = some (.cells #[.int .i64 t227, .int .i64 t228, .int .i64 t229, .int .i64 t230, .int .i64 t231, .int .i64 t232, .int .i64 t233, .int .i64 t234, .int .i64 t235] 58 (0, 0))) ∧ Aside0 (Below w.heap.size w wc))
    case first =>
      have H := HC5.out
      clear HC5
      replace H := Option.bind_eq_some_iff.mp H
      obtain ⟨t238, A100, H⟩ := H
      replace H : (if (t237 != t238) = true then (laws_FnValidPlace.j0 k t237 true t227 t228 t229 t230 t231 t232 t233 t234 t235) else (laws_FnValidPlace.j0 k t237 (!t237) t227 t228 t229 t230 t231 t232 t233 t234 t235)) = some r := H
      have A10 := Aside0.mk A100
      clear A100
      by_cases c11 : (t237 != t238) = true
      · rw [if_pos c11] at H
        have c11b0 : (t237 != t238) = true := c11
        (try (have c11b1 : decide (t237 = t238) = false := by simpa using c11))
        (try (have c11b2 : (t237 == t238) = false := by simpa using c11))
        (try (have c11b3 : ¬ (t237 = t238) := by simpa using c11))
        clear c11
        (first | rw [c11b0] | (simp only [i64_w, i32_w]; rw [c11b0]) | skip)
        have H' := Aside0.mk H
        clear H
        have hcz12_0 : w9.cell? ⟨gb236, 0, none⟩ = some (.int .i64 t227) := (blk_cell BK236.out 0).trans rfl
        have hcz12_1 : w9.cell? ⟨gb236, 1, none⟩ = some (.int .i64 t228) := (blk_cell BK236.out 1).trans rfl
        have hcz12_2 : w9.cell? ⟨gb236, 2, none⟩ = some (.int .i64 t229) := (blk_cell BK236.out 2).trans rfl
        have hcz12_3 : w9.cell? ⟨gb236, 3, none⟩ = some (.int .i64 t230) := (blk_cell BK236.out 3).trans rfl
        have hcz12_4 : w9.cell? ⟨gb236, 4, none⟩ = some (.int .i64 t231) := (blk_cell BK236.out 4).trans rfl
        have hcz12_5 : w9.cell? ⟨gb236, 5, none⟩ = some (.int .i64 t232) := (blk_cell BK236.out 5).trans rfl
        have hcz12_6 : w9.cell? ⟨gb236, 6, none⟩ = some (.int .i64 t233) := (blk_cell BK236.out 6).trans rfl
        have hcz12_7 : w9.cell? ⟨gb236, 7, none⟩ = some (.int .i64 t234) := (blk_cell BK236.out 7).trans rfl
        have hcz12_8 : w9.cell? ⟨gb236, 8, none⟩ = some (.int .i64 t235) := (blk_cell BK236.out 8).trans rfl
        have hfz12_0 := blk_frozen BK236.out 0
        have hfz12_1 := blk_frozen BK236.out 1
        have hfz12_2 := blk_frozen BK236.out 2
        have hfz12_3 := blk_frozen BK236.out 3
        have hfz12_4 := blk_frozen BK236.out 4
        have hfz12_5 := blk_frozen BK236.out 5
        have hfz12_6 := blk_frozen BK236.out 6
        have hfz12_7 := blk_frozen BK236.out 7
        have hfz12_8 := blk_frozen BK236.out 8
        go_wp2_with (first | ((with_reducible refine gate_callee (f := 47) rfl ?_); refine goesL_ (some 15) rfl rfl Try.func47 (by kernel_rfl) rfl #[.agg #[.int .i64 t227, .int .i64 t228, .int .i64 t229, .int .i64 t230, .int .i64 t231, .int .i64 t232, .int .i64 t233, .int .i64 t234, .int .i64 t235]] rfl (by (try simp only [List.map_toArray, List.map_cons, List.map_nil]); first | done | rfl | (simp only [List.length_drop, List.length_take]; rfl)) ?_; (with_reducible refine (spec_ValidPlace.calls t227 t228 t229 t230 t231 t232 t233 t234 t235 t238 _ A10.out).mono ?_); rintro e w13 ⟨rfl, hb⟩; refine ⟨_, rfl, ?_⟩; have n0_ := Aside0.mk (blk_below (g := gb236) (o := .cells #[.int .i64 t227, .int .i64 t228, .int .i64 t229, .int .i64 t230, .int .i64 t231, .int .i64 t232, .int .i64 t233, .int .i64 t234, .int .i64 t235] 58 (0, 0)) (by (with_reducible repeat (first | refine blk_drewN ?_ _ | refine blk_drew ?_ | refine blk_alloc ?_ _)); exact BK236.out) hb); have n1_ := Aside0.mk (below_step (by repeat (first | (with_reducible first | exact HB.out | apply below_alloc | apply pw_below_drewN | apply below_drew1 | refine below_set ?_ GE236.out) | exact HB.out)) hb); clear BK236; clear HB; have BK236 := n0_; have HB := n1_; clear n0_ n1_; (try clear hb); (try clear hb2); (try clear hk); (try clear hi)))
        go_meet
        case rel => exact ⟨_, (true), (by first | rfl | (simp; done) | (simp [*]; done)), H', ⟨by first | omega | exact Nat.le_refl _⟩, ⟨by (with_reducible repeat (first | refine blk_drewN ?_ _ | refine blk_drew ?_ | refine blk_alloc ?_ _)); exact BK236.out⟩, ⟨by repeat (first | (with_reducible first | exact HB.out | apply below_alloc | apply pw_below_drewN | apply below_drew1 | refine below_set ?_ GE236.out) | exact HB.out)⟩⟩
      · rw [if_neg c11] at H
        have c11b0 : (t237 != t238) = false := by simpa using c11
        (try (have c11b1 : decide (t237 = t238) = true := by simpa using c11))
        (try (have c11b2 : (t237 == t238) = true := by simpa using c11))
        clear c11
        (first | rw [c11b0] | (simp only [i64_w, i32_w]; rw [c11b0]) | skip)
        have H' := Aside0.mk H
        clear H
        have hcz14_0 : w9.cell? ⟨gb236, 0, none⟩ = some (.int .i64 t227) := (blk_cell BK236.out 0).trans rfl
        have hcz14_1 : w9.cell? ⟨gb236, 1, none⟩ = some (.int .i64 t228) := (blk_cell BK236.out 1).trans rfl
        have hcz14_2 : w9.cell? ⟨gb236, 2, none⟩ = some (.int .i64 t229) := (blk_cell BK236.out 2).trans rfl
        have hcz14_3 : w9.cell? ⟨gb236, 3, none⟩ = some (.int .i64 t230) := (blk_cell BK236.out 3).trans rfl
        have hcz14_4 : w9.cell? ⟨gb236, 4, none⟩ = some (.int .i64 t231) := (blk_cell BK236.out 4).trans rfl
        have hcz14_5 : w9.cell? ⟨gb236, 5, none⟩ = some (.int .i64 t232) := (blk_cell BK236.out 5).trans rfl
        have hcz14_6 : w9.cell? ⟨gb236, 6, none⟩ = some (.int .i64 t233) := (blk_cell BK236.out 6).trans rfl
        have hcz14_7 : w9.cell? ⟨gb236, 7, none⟩ = some (.int .i64 t234) := (blk_cell BK236.out 7).trans rfl
        have hcz14_8 : w9.cell? ⟨gb236, 8, none⟩ = some (.int .i64 t235) := (blk_cell BK236.out 8).trans rfl
        have hfz14_0 := blk_frozen BK236.out 0
        have hfz14_1 := blk_frozen BK236.out 1
        have hfz14_2 := blk_frozen BK236.out 2
        have hfz14_3 := blk_frozen BK236.out 3
        have hfz14_4 := blk_frozen BK236.out 4
        have hfz14_5 := blk_frozen BK236.out 5
        have hfz14_6 := blk_frozen BK236.out 6
        have hfz14_7 := blk_frozen BK236.out 7
        have hfz14_8 := blk_frozen BK236.out 8
        go_wp2_with (first | ((with_reducible refine gate_callee (f := 47) rfl ?_); refine goesL_ (some 15) rfl rfl Try.func47 (by kernel_rfl) rfl #[.agg #[.int .i64 t227, .int .i64 t228, .int .i64 t229, .int .i64 t230, .int .i64 t231, .int .i64 t232, .int .i64 t233, .int .i64 t234, .int .i64 t235]] rfl (by (try simp only [List.map_toArray, List.map_cons, List.map_nil]); first | done | rfl | (simp only [List.length_drop, List.length_take]; rfl)) ?_; (with_reducible refine (spec_ValidPlace.calls t227 t228 t229 t230 t231 t232 t233 t234 t235 t238 _ A10.out).mono ?_); rintro e w15 ⟨rfl, hb⟩; refine ⟨_, rfl, ?_⟩; have n0_ := Aside0.mk (blk_below (g := gb236) (o := .cells #[.int .i64 t227, .int .i64 t228, .int .i64 t229, .int .i64 t230, .int .i64 t231, .int .i64 t232, .int .i64 t233, .int .i64 t234, .int .i64 t235] 58 (0, 0)) (by (with_reducible repeat (first | refine blk_drewN ?_ _ | refine blk_drew ?_ | refine blk_alloc ?_ _)); exact BK236.out) hb); have n1_ := Aside0.mk (below_step (by repeat (first | (with_reducible first | exact HB.out | apply below_alloc | apply pw_below_drewN | apply below_drew1 | refine below_set ?_ GE236.out) | exact HB.out)) hb); clear BK236; clear HB; have BK236 := n0_; have HB := n1_; clear n0_ n1_; (try clear hb); (try clear hb2); (try clear hk); (try clear hi)))
        go_meet
        case rel => exact ⟨_, (!t237), (by first | rfl | (simp; done) | (simp [*]; done)), H', ⟨by first | omega | exact Nat.le_refl _⟩, ⟨by (with_reducible repeat (first | refine blk_drewN ?_ _ | refine blk_drew ?_ | refine blk_alloc ?_ _)); exact BK236.out⟩, ⟨by repeat (first | (with_reducible first | exact HB.out | apply below_alloc | apply pw_below_drewN | apply below_drew1 | refine below_set ?_ GE236.out) | exact HB.out)⟩⟩
    case rest =>
      clear HC5
      try clear c1
      try clear c2
      try clear c2b0
      try clear c2b1
      try clear p2
      try clear c4
      try clear c11
      try clear c11b0
      try clear c11b1
      try clear c11b2
      try clear c12
      try clear hcz12_0
      try clear hcz12_1
      try clear hcz12_2
      try clear hcz12_3
      try clear hcz12_4
      try clear hcz12_5
      try clear hcz12_6
      try clear hcz12_7
      try clear hcz12_8
      try clear hcz14_0
      try clear hcz14_1
      try clear hcz14_2
      try clear hcz14_3
      try clear hcz14_4
      try clear hcz14_5
      try clear hcz14_6
      try clear hcz14_7
      try clear hcz14_8
      try clear hcz8_0
      try clear hcz8_1
      try clear hcz8_2
      try clear hcz8_3
      try clear hcz8_4
      try clear hcz8_5
      try clear hcz8_6
      try clear hcz8_7
      try clear hcz8_8
      try clear hfz12_0
      try clear hfz12_1
      try clear hfz12_2
      try clear hfz12_3
      try clear hfz12_4
      try clear hfz12_5
      try clear hfz12_6
      try clear hfz12_7
      try clear hfz12_8
      try clear hfz14_0
      try clear hfz14_1
      try clear hfz14_2
      try clear hfz14_3
      try clear hfz14_4
      try clear hfz14_5
      try clear hfz14_6
      try clear hfz14_7
      try clear hfz14_8
      try clear hfz8_0
      try clear hfz8_1
      try clear hfz8_2
      try clear hfz8_3
      try clear hfz8_4
      try clear hfz8_5
      try clear hfz8_6
      try clear hfz8_7
      try clear hfz8_8
      obtain ⟨kq, x20_4, rfl, HA, HJ4, BK236, HB⟩ := hcut
      cases kq with
      | zero => exact absurd HA.out (by simp [laws_FnValidPlace.j0])
      | succ kj4 =>
        have H := HA.out
        clear HA
        simp only [laws_FnValidPlace.j0] at H
        by_cases c16 : x20_4 = true
        · subst c16
          have H1 : ((spec_ValidPlace.f t227 t228 t229 t230 t231 t232 t233 t234 t235).bind fun t239 => (some (t237 == t239))) = some r := by rw [if_pos rfl] at H; exact H
          clear H
          have H := H1
          clear H1
          replace H := Option.bind_eq_some_iff.mp H
          obtain ⟨t239, A170, H⟩ := H
          replace H : (some (t237 == t239)) = some r := H
          have A17 := Aside0.mk A170
          clear A170
          obtain rfl := Option.some.inj H
          have hcz18_0 : wc.cell? ⟨gb236, 0, none⟩ = some (.int .i64 t227) := (blk_cell BK236.out 0).trans rfl
          have hcz18_1 : wc.cell? ⟨gb236, 1, none⟩ = some (.int .i64 t228) := (blk_cell BK236.out 1).trans rfl
          have hcz18_2 : wc.cell? ⟨gb236, 2, none⟩ = some (.int .i64 t229) := (blk_cell BK236.out 2).trans rfl
          have hcz18_3 : wc.cell? ⟨gb236, 3, none⟩ = some (.int .i64 t230) := (blk_cell BK236.out 3).trans rfl
          have hcz18_4 : wc.cell? ⟨gb236, 4, none⟩ = some (.int .i64 t231) := (blk_cell BK236.out 4).trans rfl
          have hcz18_5 : wc.cell? ⟨gb236, 5, none⟩ = some (.int .i64 t232) := (blk_cell BK236.out 5).trans rfl
          have hcz18_6 : wc.cell? ⟨gb236, 6, none⟩ = some (.int .i64 t233) := (blk_cell BK236.out 6).trans rfl
          have hcz18_7 : wc.cell? ⟨gb236, 7, none⟩ = some (.int .i64 t234) := (blk_cell BK236.out 7).trans rfl
          have hcz18_8 : wc.cell? ⟨gb236, 8, none⟩ = some (.int .i64 t235) := (blk_cell BK236.out 8).trans rfl
          have hfz18_0 := blk_frozen BK236.out 0
          have hfz18_1 := blk_frozen BK236.out 1
          have hfz18_2 := blk_frozen BK236.out 2
          have hfz18_3 := blk_frozen BK236.out 3
          have hfz18_4 := blk_frozen BK236.out 4
          have hfz18_5 := blk_frozen BK236.out 5
          have hfz18_6 := blk_frozen BK236.out 6
          have hfz18_7 := blk_frozen BK236.out 7
          have hfz18_8 := blk_frozen BK236.out 8
          go_wp2_with (first | ((with_reducible refine gate_callee (f := 47) rfl ?_); refine goesL_ (some 23) rfl rfl Try.func47 (by kernel_rfl) rfl #[.agg #[.int .i64 t227, .int .i64 t228, .int .i64 t229, .int .i64 t230, .int .i64 t231, .int .i64 t232, .int .i64 t233, .int .i64 t234, .int .i64 t235]] rfl (by (try simp only [List.map_toArray, List.map_cons, List.map_nil]); first | done | rfl | (simp only [List.length_drop, List.length_take]; rfl)) ?_; (with_reducible refine (spec_ValidPlace.calls t227 t228 t229 t230 t231 t232 t233 t234 t235 t239 _ A17.out).mono ?_); rintro e w19 ⟨rfl, hb⟩; refine ⟨_, rfl, ?_⟩; have n0_ := Aside0.mk (blk_below (g := gb236) (o := .cells #[.int .i64 t227, .int .i64 t228, .int .i64 t229, .int .i64 t230, .int .i64 t231, .int .i64 t232, .int .i64 t233, .int .i64 t234, .int .i64 t235] 58 (0, 0)) (by (with_reducible repeat (first | refine blk_drewN ?_ _ | refine blk_drew ?_ | refine blk_alloc ?_ _)); exact BK236.out) hb); have n1_ := Aside0.mk (below_step (by repeat (first | (with_reducible first | exact HB.out | apply below_alloc | apply pw_below_drewN | apply below_drew1 | refine below_set ?_ GE236.out) | exact HB.out)) hb); clear BK236; clear HB; have BK236 := n0_; have HB := n1_; clear n0_ n1_; (try clear hb); (try clear hb2); (try clear hk); (try clear hi)))
          go_ret
          exact ⟨by first | rfl | (simp [errW_none, errW_some] <;> rfl) | (simp [*, errW_none, errW_some] <;> rfl), by repeat (first | (with_reducible first | exact HB.out | apply below_alloc | apply pw_below_drewN | apply below_drew1 | refine below_set ?_ GE236.out) | exact HB.out)⟩
        · replace c16 := Bool.eq_false_iff.mpr c16
          subst c16
          have H1 : (laws_FnValidPlace.l0 kj4 0 t227 t228 t229 t230 t231 t232 t233 t234 t235) = some r := by rw [if_neg (show ¬ (false = true) by decide)] at H; exact H
          clear H
          have H := H1
          clear H1
          have H' := Aside0.mk H
          clear H
          go_wp2
          go_loopg [5] kj4 (fun kq v5 w' => ∃ (x5_2 : Int) (x237008_2 : Int), v5 = .int .i64 x5_2 ∧ Aside0 (laws_FnValidPlace.l0 kq x5_2 t227 t228 t229 t230 t231 t232 t233 t234 x237008_2 = some r) ∧ Aside0 (kq ≤ kj4) ∧ Aside0 (w'.heap[gb236]? = some (.cells #[.int .i64 t227, .int .i64 t228, .int .i64 t229, .int .i64 t230, .int .i64 t231, .int .i64 t232, .int .i64 t233, .int .i64 t234, .int .i64 x237008_2] 58 (0, 0))) ∧ Aside0 (Below w.heap.size w w'))
          case atStart => exact ⟨(0), (t235), (by first | rfl | (simp; done) | (simp [*]; done)), H', ⟨Nat.le_refl _⟩, ⟨by (with_reducible repeat (first | refine blk_drewN ?_ _ | refine blk_drew ?_ | refine blk_alloc ?_ _)); exact BK236.out⟩, ⟨by repeat (first | (with_reducible first | exact HB.out | apply below_alloc | apply pw_below_drewN | apply below_drew1 | refine below_set ?_ GE236.out) | exact HB.out)⟩⟩
          case round =>
            clear H'
            try clear c1
            try clear c2
            try clear c2b0
            try clear c2b1
            try clear p2
            try clear c4
            try clear c11
            try clear c11b0
            try clear c11b1
            try clear c11b2
            try clear c12
            try clear c16
            try clear hcz12_0
            try clear hcz12_1
            try clear hcz12_2
            try clear hcz12_3
            try clear hcz12_4
            try clear hcz12_5
            try clear hcz12_6
            try clear hcz12_7
            try clear hcz12_8
            try clear hcz14_0
            try clear hcz14_1
            try clear hcz14_2
            try clear hcz14_3
            try clear hcz14_4
            try clear hcz14_5
            try clear hcz14_6
            try clear hcz14_7
            try clear hcz14_8
            try clear hcz18_0
            try clear hcz18_1
            try clear hcz18_2
            try clear hcz18_3
            try clear hcz18_4
            try clear hcz18_5
            try clear hcz18_6
            try clear hcz18_7
            try clear hcz18_8
            try clear hcz8_0
            try clear hcz8_1
            try clear hcz8_2
            try clear hcz8_3
            try clear hcz8_4
            try clear hcz8_5
            try clear hcz8_6
            try clear hcz8_7
            try clear hcz8_8
            try clear hfz12_0
            try clear hfz12_1
            try clear hfz12_2
            try clear hfz12_3
            try clear hfz12_4
            try clear hfz12_5
            try clear hfz12_6
            try clear hfz12_7
            try clear hfz12_8
            try clear hfz14_0
            try clear hfz14_1
            try clear hfz14_2
            try clear hfz14_3
            try clear hfz14_4
            try clear hfz14_5
            try clear hfz14_6
            try clear hfz14_7
            try clear hfz14_8
            try clear hfz18_0
            try clear hfz18_1
            try clear hfz18_2
            try clear hfz18_3
            try clear hfz18_4
            try clear hfz18_5
            try clear hfz18_6
            try clear hfz18_7
            try clear hfz18_8
            try clear hfz8_0
            try clear hfz8_1
            try clear hfz8_2
            try clear hfz8_3
            try clear hfz8_4
            try clear hfz8_5
            try clear hfz8_6
            try clear hfz8_7
            try clear hfz8_8
            try clear p2
            obtain ⟨x5_2, x237008_2, rfl, HA, HK2, BK236, HB⟩ := hrel
            cases gk with
            | zero => exact absurd HA.out (by simp [laws_FnValidPlace.l0])
            | succ k2 =>
              have H := HA.out
              clear HA
              simp only [laws_FnValidPlace.l0] at H
              by_cases c20 : x5_2 ≤ 8
              · rw [if_pos c20] at H
                have c20b0 : decide (x5_2 ≤ 8) = true := decide_eq_true c20
                clear c20
                replace H := Option.bind_eq_some_iff.mp H
                obtain ⟨t240, A210, H⟩ := H
                replace H : (if t240 = true then (laws_FnValidPlace.l0 k2 (wrap64 (x5_2 + 1)) t227 t228 t229 t230 t231 t232 t233 t234 x5_2) else (some false)) = some r := H
                have A21 := Aside0.mk A210
                clear A210
                by_cases c22 : t240 = true
                · subst c22
                  have H1 : (laws_FnValidPlace.l0 k2 (wrap64 (x5_2 + 1)) t227 t228 t229 t230 t231 t232 t233 t234 x5_2) = some r := by rw [if_pos rfl] at H; exact H
                  clear H
                  have H := H1
                  clear H1
                  have H' := Aside0.mk H
                  clear H
                  have hcz23_0 : wr.cell? ⟨gb236, 0, none⟩ = some (.int .i64 t227) := (blk_cell BK236.out 0).trans rfl
                  have hcz23_1 : wr.cell? ⟨gb236, 1, none⟩ = some (.int .i64 t228) := (blk_cell BK236.out 1).trans rfl
                  have hcz23_2 : wr.cell? ⟨gb236, 2, none⟩ = some (.int .i64 t229) := (blk_cell BK236.out 2).trans rfl
                  have hcz23_3 : wr.cell? ⟨gb236, 3, none⟩ = some (.int .i64 t230) := (blk_cell BK236.out 3).trans rfl
                  have hcz23_4 : wr.cell? ⟨gb236, 4, none⟩ = some (.int .i64 t231) := (blk_cell BK236.out 4).trans rfl
                  have hcz23_5 : wr.cell? ⟨gb236, 5, none⟩ = some (.int .i64 t232) := (blk_cell BK236.out 5).trans rfl
                  have hcz23_6 : wr.cell? ⟨gb236, 6, none⟩ = some (.int .i64 t233) := (blk_cell BK236.out 6).trans rfl
                  have hcz23_7 : wr.cell? ⟨gb236, 7, none⟩ = some (.int .i64 t234) := (blk_cell BK236.out 7).trans rfl
                  have hcz23_8 : wr.cell? ⟨gb236, 8, none⟩ = some (.int .i64 x237008_2) := (blk_cell BK236.out 8).trans rfl
                  have hfz23_0 := blk_frozen BK236.out 0
                  have hfz23_1 := blk_frozen BK236.out 1
                  have hfz23_2 := blk_frozen BK236.out 2
                  have hfz23_3 := blk_frozen BK236.out 3
                  have hfz23_4 := blk_frozen BK236.out 4
                  have hfz23_5 := blk_frozen BK236.out 5
                  have hfz23_6 := blk_frozen BK236.out 6
                  have hfz23_7 := blk_frozen BK236.out 7
                  have hfz23_8 := blk_frozen BK236.out 8
                  go_wp2_with (first | ((with_reducible refine gate_callee (f := 46) rfl ?_); refine goesL_ (some 32) rfl rfl Try.func46 (by kernel_rfl) rfl #[.agg #[.int .i64 t227, .int .i64 t228, .int .i64 t229, .int .i64 t230, .int .i64 t231, .int .i64 t232, .int .i64 t233, .int .i64 t234, .int .i64 x5_2]] rfl (by (try simp only [List.map_toArray, List.map_cons, List.map_nil]); first | done | rfl | (simp only [List.length_drop, List.length_take]; rfl)) ?_; (with_reducible refine (impl_ValidPlace.calls k2 t227 t228 t229 t230 t231 t232 t233 t234 x5_2 true _ A21.out).mono ?_); rintro e w24 ⟨rfl, hb⟩; refine ⟨_, rfl, ?_⟩; have n0_ := Aside0.mk (blk_below (g := gb236) (o := .cells #[.int .i64 t227, .int .i64 t228, .int .i64 t229, .int .i64 t230, .int .i64 t231, .int .i64 t232, .int .i64 t233, .int .i64 t234, .int .i64 x5_2] 58 (0, 0)) (by (with_reducible repeat (first | refine blk_drewN ?_ _ | refine blk_drew ?_ | refine blk_alloc ?_ _)); refine blk_put (cs := #[.int .i64 t227, .int .i64 t228, .int .i64 t229, .int .i64 t230, .int .i64 t231, .int .i64 t232, .int .i64 t233, .int .i64 t234, .int .i64 x237008_2]) ?_ 8 _ rfl; (with_reducible repeat (first | refine blk_drewN ?_ _ | refine blk_drew ?_ | refine blk_alloc ?_ _)); exact BK236.out) hb); have n1_ := Aside0.mk (below_step (by repeat (first | (with_reducible first | exact HB.out | apply below_alloc | apply pw_below_drewN | apply below_drew1 | refine below_set ?_ GE236.out) | exact HB.out)) hb); clear BK236; clear HB; have BK236 := n0_; have HB := n1_; clear n0_ n1_; (try clear hb); (try clear hb2); (try clear hk); (try clear hi)))
                  go_roundg k2
                  case measure => have := HJ4.out; have := HK2.out; omega
                  case rel => exact ⟨(wrap64 (x5_2 + 1)), (x5_2), (by first | rfl | (simp; done) | (simp [*]; done)), H', ⟨by have := HJ4.out; have := HK2.out; omega⟩, ⟨by (with_reducible repeat (first | refine blk_drewN ?_ _ | refine blk_drew ?_ | refine blk_alloc ?_ _)); exact BK236.out⟩, ⟨by repeat (first | (with_reducible first | exact HB.out | apply below_alloc | apply pw_below_drewN | apply below_drew1 | refine below_set ?_ GE236.out) | exact HB.out)⟩⟩
                · replace c22 := Bool.eq_false_iff.mpr c22
                  subst c22
                  have H1 : (some false) = some r := by rw [if_neg (show ¬ (false = true) by decide)] at H; exact H
                  clear H
                  have H := H1
                  clear H1
                  obtain rfl := Option.some.inj H
                  have hcz25_0 : wr.cell? ⟨gb236, 0, none⟩ = some (.int .i64 t227) := (blk_cell BK236.out 0).trans rfl
                  have hcz25_1 : wr.cell? ⟨gb236, 1, none⟩ = some (.int .i64 t228) := (blk_cell BK236.out 1).trans rfl
                  have hcz25_2 : wr.cell? ⟨gb236, 2, none⟩ = some (.int .i64 t229) := (blk_cell BK236.out 2).trans rfl
                  have hcz25_3 : wr.cell? ⟨gb236, 3, none⟩ = some (.int .i64 t230) := (blk_cell BK236.out 3).trans rfl
                  have hcz25_4 : wr.cell? ⟨gb236, 4, none⟩ = some (.int .i64 t231) := (blk_cell BK236.out 4).trans rfl
                  have hcz25_5 : wr.cell? ⟨gb236, 5, none⟩ = some (.int .i64 t232) := (blk_cell BK236.out 5).trans rfl
                  have hcz25_6 : wr.cell? ⟨gb236, 6, none⟩ = some (.int .i64 t233) := (blk_cell BK236.out 6).trans rfl
                  have hcz25_7 : wr.cell? ⟨gb236, 7, none⟩ = some (.int .i64 t234) := (blk_cell BK236.out 7).trans rfl
                  have hcz25_8 : wr.cell? ⟨gb236, 8, none⟩ = some (.int .i64 x237008_2) := (blk_cell BK236.out 8).trans rfl
                  have hfz25_0 := blk_frozen BK236.out 0
                  have hfz25_1 := blk_frozen BK236.out 1
                  have hfz25_2 := blk_frozen BK236.out 2
                  have hfz25_3 := blk_frozen BK236.out 3
                  have hfz25_4 := blk_frozen BK236.out 4
                  have hfz25_5 := blk_frozen BK236.out 5
                  have hfz25_6 := blk_frozen BK236.out 6
                  have hfz25_7 := blk_frozen BK236.out 7
                  have hfz25_8 := blk_frozen BK236.out 8
                  go_wp2_with (first | ((with_reducible refine gate_callee (f := 46) rfl ?_); refine goesL_ (some 32) rfl rfl Try.func46 (by kernel_rfl) rfl #[.agg #[.int .i64 t227, .int .i64 t228, .int .i64 t229, .int .i64 t230, .int .i64 t231, .int .i64 t232, .int .i64 t233, .int .i64 t234, .int .i64 x5_2]] rfl (by (try simp only [List.map_toArray, List.map_cons, List.map_nil]); first | done | rfl | (simp only [List.length_drop, List.length_take]; rfl)) ?_; (with_reducible refine (impl_ValidPlace.calls k2 t227 t228 t229 t230 t231 t232 t233 t234 x5_2 false _ A21.out).mono ?_); rintro e w26 ⟨rfl, hb⟩; refine ⟨_, rfl, ?_⟩; have n0_ := Aside0.mk (blk_below (g := gb236) (o := .cells #[.int .i64 t227, .int .i64 t228, .int .i64 t229, .int .i64 t230, .int .i64 t231, .int .i64 t232, .int .i64 t233, .int .i64 t234, .int .i64 x5_2] 58 (0, 0)) (by (with_reducible repeat (first | refine blk_drewN ?_ _ | refine blk_drew ?_ | refine blk_alloc ?_ _)); refine blk_put (cs := #[.int .i64 t227, .int .i64 t228, .int .i64 t229, .int .i64 t230, .int .i64 t231, .int .i64 t232, .int .i64 t233, .int .i64 t234, .int .i64 x237008_2]) ?_ 8 _ rfl; (with_reducible repeat (first | refine blk_drewN ?_ _ | refine blk_drew ?_ | refine blk_alloc ?_ _)); exact BK236.out) hb); have n1_ := Aside0.mk (below_step (by repeat (first | (with_reducible first | exact HB.out | apply below_alloc | apply pw_below_drewN | apply below_drew1 | refine below_set ?_ GE236.out) | exact HB.out)) hb); clear BK236; clear HB; have BK236 := n0_; have HB := n1_; clear n0_ n1_; (try clear hb); (try clear hb2); (try clear hk); (try clear hi)))
                  go_ret
                  exact ⟨by first | rfl | (simp [errW_none, errW_some] <;> rfl) | (simp [*, errW_none, errW_some] <;> rfl), by repeat (first | (with_reducible first | exact HB.out | apply below_alloc | apply pw_below_drewN | apply below_drew1 | refine below_set ?_ GE236.out) | exact HB.out)⟩
              · rw [if_neg c20] at H
                have c20b0 : decide (x5_2 ≤ 8) = false := decide_eq_false c20
                clear c20
                obtain rfl := Option.some.inj H
                go_wp2
                go_ret
                exact ⟨by first | rfl | (simp [errW_none, errW_some] <;> rfl) | (simp [*, errW_none, errW_some] <;> rfl), by repeat (first | (with_reducible first | exact HB.out | apply below_alloc | apply pw_below_drewN | apply below_drew1 | refine below_set ?_ GE236.out) | exact HB.out)⟩

/-- THE ONE PURE STATEMENT of laws_FnValidPlace: yours. -/
def laws_FnValidPlace.Pure : Prop := ∀ (l0 : List Int), l0.length ≤ maxLen → l0.length * 1 ≤ 140737488351232 → (∀ x ∈ l0, (Lit.int .u8 x).wf = true) → ∃ k, laws_FnValidPlace.f k l0 = some true
theorem laws_FnValidPlace.walk (P : laws_FnValidPlace.Pure) (a0 : Option Addr) (len0 cap0 : Nat) (z0 : List Int) (w : World) (w0 : (a0 = none ∧ len0 = 0 ∧ cap0 = 0 ∧ z0 = []) ∨ ∃ x, a0 = some x ∧ len0 ≤ cap0 ∧ cap0 ≤ maxLen ∧ z0.length = cap0 ∧ (∀ i, i < z0.length → w.cell? (x.add i) = some (.int .u8 (z0.getD i 0))) ∧ ∀ n ∈ z0, (Lit.int .u8 n).wf = true) (y0 : len0 * 1 ≤ 140737488351232) :
    Calls Try.prog 12 #[.slice a0 len0 cap0] w fun e w' => e = .returned (.bool true) ∧ Below w.heap.size w w' := by
  obtain ⟨l0, rfl, hr0, hm0, hw0, hc0⟩ := ReadsInt.ofRowC w0
  obtain ⟨k, h⟩ := P l0 hm0 y0 hw0
  refine (laws_FnValidPlace.calls k _ _ l0 true w (Kd.C_of_reads (d := (0 : Int)) (h1 := fun _ => rfl) hr0) hc0 h).mono ?_
  rintro e w' ⟨rfl, hd⟩
  exact ⟨rfl, hd⟩

end Go.Proofs.Ytkecldjkakkgoaa.PFnValidPlace
