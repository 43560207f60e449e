/- Contracts of the functions that FnLeastInside reaches: own text, written by reown.py after the print's pattern. No condition. -/
import Derived.Test.YtfjpombdnbjomaaQFnLeastInsidex0
import Derived.Test.YtfjpombdnbjomaaQFnLeastInsidex1
import Derived.Test.YtfjpombdnbjomaaQFnLeastInsidex2
import Derived.Test.YtfjpombdnbjomaaQFnLeastInsidex3
import Derived.Test.YtfjpombdnbjomaaQFnLeastInsidex4
namespace Go.Proofs.Ytfjpombdnbjomaa.PFnLeastInside
open Go.RowKit Go.Proofs.YtfjpombdnbjomaaW.PrintWords Go.Proofs.YtfjpombdnbjomaaW.PrintLast Go.Proofs.YtfjpombdnbjomaaW.PrintMore
open Go.Proofs.Ytfjpombdnbjomaa.MxMn
attribute [local go_sem] max2_mx min2_mn max_two min_two max_three min_three max_four min_four   -- for this text's walks alone
set_option linter.unusedVariables false
set_option linter.unusedSimpArgs false

/-! ### laws_FnLeastInside: function 14 -/
mutual
def laws_FnLeastInside.j0 : Nat → Int → Bool → Int → Int → Int → Int → Int → Int → Int → Int → Int → Option (Bool)
  | 0, _, _, _, _, _, _, _, _, _, _, _ => none
  | k + 1, x4, x22, x279000, x279001, x279002, x279003, x279004, x279005, x279006, x279007, x279008 => if x22 = true then ((spec_LeastInside.f k x279000 x279001 x279002 x279003 x279004 x279005 x279006 x279007 x279008).bind fun t282 => (some (x4 == t282))) else (if x4 < 0 then (laws_FnLeastInside.j1 k x4 401 x279000 x279001 x279002 x279003 x279004 x279005 x279006 x279007 x279008) else (laws_FnLeastInside.j1 k x4 x4 x279000 x279001 x279002 x279003 x279004 x279005 x279006 x279007 x279008))
def laws_FnLeastInside.j1 : Nat → Int → Int → Int → Int → Int → Int → Int → Int → Int → Int → Int → Option (Bool)
  | 0, _, _, _, _, _, _, _, _, _, _, _ => none
  | k + 1, x4, x5, x279000, x279001, x279002, x279003, x279004, x279005, x279006, x279007, x279008 => laws_FnLeastInside.l0 k x4 x5 0 x279000 x279001 x279002 x279003 x279004 x279005 x279006 x279007 x279008
def laws_FnLeastInside.l0 : Nat → Int → Int → Int → Int → Int → Int → Int → Int → Int → Int → Int → Int → Option (Bool)
  | 0, _, _, _, _, _, _, _, _, _, _, _, _ => none
  | k + 1, x4, x5, x6, x279000, x279001, x279002, x279003, x279004, x279005, x279006, x279007, x279008 => if x6 < x5 then ((impl_PlaceInside.f k x279000 x279001 x279002 x279003 x279004 x279005 x279006 x279007 x279008 x6 x6).bind fun t283 => (if t283 = true then (some false) else (laws_FnLeastInside.l0 k x4 x5 (wrap64 (x6 + 1)) x279000 x279001 x279002 x279003 x279004 x279005 x279006 x279007 x279008))) else (if x4 < 0 then (some true) else ((impl_PlaceInside.f k x279000 x279001 x279002 x279003 x279004 x279005 x279006 x279007 x279008 x4 x4).bind fun t284 => (some t284)))
end
def laws_FnLeastInside.f (k : Nat) (l0 : List Int) : Option (Bool) := if (l0.length : Int) > 1048576 then (some true) else ((spec_DrawLeastInside.f k l0).bind fun bt269 => ((impl_LeastInside.f k bt269.1 bt269.2.1 bt269.2.2.1 bt269.2.2.2.1 bt269.2.2.2.2.1 bt269.2.2.2.2.2.1 bt269.2.2.2.2.2.2.1 bt269.2.2.2.2.2.2.2.1 bt269.2.2.2.2.2.2.2.2).bind fun t279 => ((spec_LeastInside.f k bt269.1 bt269.2.1 bt269.2.2.1 bt269.2.2.2.1 bt269.2.2.2.2.1 bt269.2.2.2.2.2.1 bt269.2.2.2.2.2.2.1 bt269.2.2.2.2.2.2.2.1 bt269.2.2.2.2.2.2.2.2).bind fun t280 => (if t279 = t280 then ((impl_ValidPlace.f k bt269.1 bt269.2.1 bt269.2.2.1 bt269.2.2.2.1 bt269.2.2.2.2.1 bt269.2.2.2.2.2.1 bt269.2.2.2.2.2.2.1 bt269.2.2.2.2.2.2.2.1 bt269.2.2.2.2.2.2.2.2).bind fun t281 => (laws_FnLeastInside.j0 k t279 (!t281) bt269.1 bt269.2.1 bt269.2.2.1 bt269.2.2.2.1 bt269.2.2.2.2.1 bt269.2.2.2.2.2.1 bt269.2.2.2.2.2.2.1 bt269.2.2.2.2.2.2.2.1 bt269.2.2.2.2.2.2.2.2)) else (laws_FnLeastInside.j0 k t279 true bt269.1 bt269.2.1 bt269.2.2.1 bt269.2.2.2.1 bt269.2.2.2.2.1 bt269.2.2.2.2.2.1 bt269.2.2.2.2.2.2.1 bt269.2.2.2.2.2.2.2.1 bt269.2.2.2.2.2.2.2.2)))))
theorem laws_FnLeastInside.mono_l : ∀ k, (∀ y0 y1 y2 y3 y4 y5 y6 y7 y8 y9 y10, LeO (laws_FnLeastInside.j0 k y0 y1 y2 y3 y4 y5 y6 y7 y8 y9 y10) (laws_FnLeastInside.j0 (k + 1) y0 y1 y2 y3 y4 y5 y6 y7 y8 y9 y10)) ∧ (∀ y0 y1 y2 y3 y4 y5 y6 y7 y8 y9 y10, LeO (laws_FnLeastInside.j1 k y0 y1 y2 y3 y4 y5 y6 y7 y8 y9 y10) (laws_FnLeastInside.j1 (k + 1) y0 y1 y2 y3 y4 y5 y6 y7 y8 y9 y10)) ∧ (∀ y0 y1 y2 y3 y4 y5 y6 y7 y8 y9 y10 y11, LeO (laws_FnLeastInside.l0 k y0 y1 y2 y3 y4 y5 y6 y7 y8 y9 y10 y11) (laws_FnLeastInside.l0 (k + 1) y0 y1 y2 y3 y4 y5 y6 y7 y8 y9 y10 y11))
  | 0 => ⟨fun _ _ _ _ _ _ _ _ _ _ _ r h => by simp [laws_FnLeastInside.j0] at h, fun _ _ _ _ _ _ _ _ _ _ _ r h => by simp [laws_FnLeastInside.j1] at h, fun _ _ _ _ _ _ _ _ _ _ _ _ r h => by simp [laws_FnLeastInside.l0] at h⟩
  | k + 1 => by
    obtain ⟨ih0, ih1, ih2⟩ := laws_FnLeastInside.mono_l k
    refine ⟨?_, ?_, ?_⟩
    · intro y0 y1 y2 y3 y4 y5 y6 y7 y8 y9 y10
      unfold laws_FnLeastInside.j0
      repeat' first
      | (with_reducible exact ih0 _ _ _ _ _ _ _ _ _ _ _)
      | (with_reducible exact ih1 _ _ _ _ _ _ _ _ _ _ _)
      | (with_reducible exact ih2 _ _ _ _ _ _ _ _ _ _ _ _)
      | (with_reducible exact impl_LeastInside.mono _ _ _ _ _ _ _ _ _ _)
      | (with_reducible exact impl_PlaceInside.mono _ _ _ _ _ _ _ _ _ _ _ _)
      | (with_reducible exact impl_ValidPlace.mono _ _ _ _ _ _ _ _ _ _)
      | (with_reducible exact spec_DrawLeastInside.mono _ _)
      | (with_reducible exact spec_LeastInside.mono _ _ _ _ _ _ _ _ _ _)
      | (with_reducible exact LeO.refl _)
      | (with_reducible exact LeO.none _)
      | (with_reducible refine LeO.ite ?_ ?_)
      | (with_reducible refine LeO.bind ?_ (fun _ => ?_))
      | exact ih0 _ _ _ _ _ _ _ _ _ _ _
      | exact ih1 _ _ _ _ _ _ _ _ _ _ _
      | exact ih2 _ _ _ _ _ _ _ _ _ _ _ _
      | exact impl_LeastInside.mono _ _ _ _ _ _ _ _ _ _
      | exact impl_PlaceInside.mono _ _ _ _ _ _ _ _ _ _ _ _
      | exact impl_ValidPlace.mono _ _ _ _ _ _ _ _ _ _
      | exact spec_DrawLeastInside.mono _ _
      | exact spec_LeastInside.mono _ _ _ _ _ _ _ _ _ _
      | exact LeO.none _
      | refine LeO.ite ?_ ?_
      | refine LeO.bind ?_ (fun _ => ?_)
    · intro y0 y1 y2 y3 y4 y5 y6 y7 y8 y9 y10
      unfold laws_FnLeastInside.j1
      repeat' first
      | (with_reducible exact ih0 _ _ _ _ _ _ _ _ _ _ _)
      | (with_reducible exact ih1 _ _ _ _ _ _ _ _ _ _ _)
      | (with_reducible exact ih2 _ _ _ _ _ _ _ _ _ _ _ _)
      | (with_reducible exact impl_LeastInside.mono _ _ _ _ _ _ _ _ _ _)
      | (with_reducible exact impl_PlaceInside.mono _ _ _ _ _ _ _ _ _ _ _ _)
      | (with_reducible exact impl_ValidPlace.mono _ _ _ _ _ _ _ _ _ _)
      | (with_reducible exact spec_DrawLeastInside.mono _ _)
      | (with_reducible exact spec_LeastInside.mono _ _ _ _ _ _ _ _ _ _)
      | (with_reducible exact LeO.refl _)
      | (with_reducible exact LeO.none _)
      | (with_reducible refine LeO.ite ?_ ?_)
      | (with_reducible refine LeO.bind ?_ (fun _ => ?_))
      | exact ih0 _ _ _ _ _ _ _ _ _ _ _
      | exact ih1 _ _ _ _ _ _ _ _ _ _ _
      | exact ih2 _ _ _ _ _ _ _ _ _ _ _ _
      | exact impl_LeastInside.mono _ _ _ _ _ _ _ _ _ _
      | exact impl_PlaceInside.mono _ _ _ _ _ _ _ _ _ _ _ _
      | exact impl_ValidPlace.mono _ _ _ _ _ _ _ _ _ _
      | exact spec_DrawLeastInside.mono _ _
      | exact spec_LeastInside.mono _ _ _ _ _ _ _ _ _ _
      | exact LeO.none _
      | refine LeO.ite ?_ ?_
      | refine LeO.bind ?_ (fun _ => ?_)
    · intro y0 y1 y2 y3 y4 y5 y6 y7 y8 y9 y10 y11
      unfold laws_FnLeastInside.l0
      repeat' first
      | (with_reducible exact ih0 _ _ _ _ _ _ _ _ _ _ _)
      | (with_reducible exact ih1 _ _ _ _ _ _ _ _ _ _ _)
      | (with_reducible exact ih2 _ _ _ _ _ _ _ _ _ _ _ _)
      | (with_reducible exact impl_LeastInside.mono _ _ _ _ _ _ _ _ _ _)
      | (with_reducible exact impl_PlaceInside.mono _ _ _ _ _ _ _ _ _ _ _ _)
      | (with_reducible exact impl_ValidPlace.mono _ _ _ _ _ _ _ _ _ _)
      | (with_reducible exact spec_DrawLeastInside.mono _ _)
      | (with_reducible exact spec_LeastInside.mono _ _ _ _ _ _ _ _ _ _)
      | (with_reducible exact LeO.refl _)
      | (with_reducible exact LeO.none _)
      | (with_reducible refine LeO.ite ?_ ?_)
      | (with_reducible refine LeO.bind ?_ (fun _ => ?_))
      | exact ih0 _ _ _ _ _ _ _ _ _ _ _
      | exact ih1 _ _ _ _ _ _ _ _ _ _ _
      | exact ih2 _ _ _ _ _ _ _ _ _ _ _ _
      | exact impl_LeastInside.mono _ _ _ _ _ _ _ _ _ _
      | exact impl_PlaceInside.mono _ _ _ _ _ _ _ _ _ _ _ _
      | exact impl_ValidPlace.mono _ _ _ _ _ _ _ _ _ _
      | exact spec_DrawLeastInside.mono _ _
      | exact spec_LeastInside.mono _ _ _ _ _ _ _ _ _ _
      | exact LeO.none _
      | refine LeO.ite ?_ ?_
      | refine LeO.bind ?_ (fun _ => ?_)
theorem laws_FnLeastInside.mono : ∀ a0 k, LeO (laws_FnLeastInside.f k a0) (laws_FnLeastInside.f (k + 1) a0) := by
  intro a0 k
  obtain ⟨ih0, ih1, ih2⟩ := laws_FnLeastInside.mono_l k
  unfold laws_FnLeastInside.f
  repeat' first
      | (with_reducible exact ih0 _ _ _ _ _ _ _ _ _ _ _)
      | (with_reducible exact ih1 _ _ _ _ _ _ _ _ _ _ _)
      | (with_reducible exact ih2 _ _ _ _ _ _ _ _ _ _ _ _)
      | (with_reducible exact impl_LeastInside.mono _ _ _ _ _ _ _ _ _ _)
      | (with_reducible exact impl_PlaceInside.mono _ _ _ _ _ _ _ _ _ _ _ _)
      | (with_reducible exact impl_ValidPlace.mono _ _ _ _ _ _ _ _ _ _)
      | (with_reducible exact spec_DrawLeastInside.mono _ _)
      | (with_reducible exact spec_LeastInside.mono _ _ _ _ _ _ _ _ _ _)
      | (with_reducible exact LeO.refl _)
      | (with_reducible exact LeO.none _)
      | (with_reducible refine LeO.ite ?_ ?_)
      | (with_reducible refine LeO.bind ?_ (fun _ => ?_))
      | exact ih0 _ _ _ _ _ _ _ _ _ _ _
      | exact ih1 _ _ _ _ _ _ _ _ _ _ _
      | exact ih2 _ _ _ _ _ _ _ _ _ _ _ _
      | exact impl_LeastInside.mono _ _ _ _ _ _ _ _ _ _
      | exact impl_PlaceInside.mono _ _ _ _ _ _ _ _ _ _ _ _
      | exact impl_ValidPlace.mono _ _ _ _ _ _ _ _ _ _
      | exact spec_DrawLeastInside.mono _ _
      | exact spec_LeastInside.mono _ _ _ _ _ _ _ _ _ _
      | exact LeO.none _
      | refine LeO.ite ?_ ?_
      | refine LeO.bind ?_ (fun _ => ?_)
set_option maxHeartbeats 8000000 in
set_option maxRecDepth 100000 in
theorem laws_FnLeastInside.calls (k : Nat) (A0 : Option Addr) (c0 : Nat) (l0 : List Int) (r : Bool) (w : World) (hr0 : Kd.C (Kd.int .u8) w A0 l0.length l0) (hc0 : l0.length ≤ c0) (h : laws_FnLeastInside.f k l0 = some r) :
    Calls Try.prog 14 #[.slice A0 l0.length c0] w fun e w' => e = .returned (.bool r) ∧ Below w.heap.size w w' := by
  have hu44 := Try.underlying44
  have HR0 := Aside0.mk hr0
  have HC0 := Aside0.mk hc0
  clear hr0 hc0
  have HB := Aside0.mk (Below.refl w.heap.size w)
  have H : (if (l0.length : Int) > 1048576 then (some true) else ((spec_DrawLeastInside.f k l0).bind fun bt269 => ((impl_LeastInside.f k bt269.1 bt269.2.1 bt269.2.2.1 bt269.2.2.2.1 bt269.2.2.2.2.1 bt269.2.2.2.2.2.1 bt269.2.2.2.2.2.2.1 bt269.2.2.2.2.2.2.2.1 bt269.2.2.2.2.2.2.2.2).bind fun t279 => ((spec_LeastInside.f k bt269.1 bt269.2.1 bt269.2.2.1 bt269.2.2.2.1 bt269.2.2.2.2.1 bt269.2.2.2.2.2.1 bt269.2.2.2.2.2.2.1 bt269.2.2.2.2.2.2.2.1 bt269.2.2.2.2.2.2.2.2).bind fun t280 => (if t279 = t280 then ((impl_ValidPlace.f k bt269.1 bt269.2.1 bt269.2.2.1 bt269.2.2.2.1 bt269.2.2.2.2.1 bt269.2.2.2.2.2.1 bt269.2.2.2.2.2.2.1 bt269.2.2.2.2.2.2.2.1 bt269.2.2.2.2.2.2.2.2).bind fun t281 => (laws_FnLeastInside.j0 k t279 (!t281) bt269.1 bt269.2.1 bt269.2.2.1 bt269.2.2.2.1 bt269.2.2.2.2.1 bt269.2.2.2.2.2.1 bt269.2.2.2.2.2.2.1 bt269.2.2.2.2.2.2.2.1 bt269.2.2.2.2.2.2.2.2)) else (laws_FnLeastInside.j0 k t279 true bt269.1 bt269.2.1 bt269.2.2.1 bt269.2.2.2.1 bt269.2.2.2.2.1 bt269.2.2.2.2.2.1 bt269.2.2.2.2.2.2.1 bt269.2.2.2.2.2.2.2.1 bt269.2.2.2.2.2.2.2.2)))))) = some r := h
  clear h
  by_cases c2 : (l0.length : Int) > 1048576
  · rw [if_pos c2] at H
    have c2b0 : decide (1048576 < (l0.length : Int)) = true := decide_eq_true c2
    have c2b1 : decide (1048576 < l0.length) = true := decide_eq_true (by omega)
    clear c2
    obtain rfl := Option.some.inj H
    go_enter Try.func14, Try.ntmps14
    go_wp2
    go_ret
    exact ⟨by first | rfl | (simp [errW_none, errW_some] <;> rfl) | (simp [*, errW_none, errW_some] <;> rfl), by repeat (first | (with_reducible first | exact HB.out | apply below_alloc | apply pw_below_drewN | apply below_drew1) | exact HB.out)⟩
  · rw [if_neg c2] at H
    have c2b0 : decide (1048576 < (l0.length : Int)) = false := decide_eq_false c2
    have c2b1 : decide (1048576 < l0.length) = false := decide_eq_false (by omega)
    clear c2
    replace H := Option.bind_eq_some_iff.mp H
    obtain ⟨⟨t269, t270, t271, t272, t273, t274, t275, t276, t277⟩, A30, H⟩ := H
    replace H : ((impl_LeastInside.f k t269 t270 t271 t272 t273 t274 t275 t276 t277).bind fun t279 => ((spec_LeastInside.f k t269 t270 t271 t272 t273 t274 t275 t276 t277).bind fun t280 => (if t279 = t280 then ((impl_ValidPlace.f k t269 t270 t271 t272 t273 t274 t275 t276 t277).bind fun t281 => (laws_FnLeastInside.j0 k t279 (!t281) t269 t270 t271 t272 t273 t274 t275 t276 t277)) else (laws_FnLeastInside.j0 k t279 true t269 t270 t271 t272 t273 t274 t275 t276 t277)))) = some r := H
    have A3 := Aside0.mk A30
    clear A30
    replace H := Option.bind_eq_some_iff.mp H
    obtain ⟨t279, A40, H⟩ := H
    replace H : ((spec_LeastInside.f k t269 t270 t271 t272 t273 t274 t275 t276 t277).bind fun t280 => (if t279 = t280 then ((impl_ValidPlace.f k t269 t270 t271 t272 t273 t274 t275 t276 t277).bind fun t281 => (laws_FnLeastInside.j0 k t279 (!t281) t269 t270 t271 t272 t273 t274 t275 t276 t277)) else (laws_FnLeastInside.j0 k t279 true t269 t270 t271 t272 t273 t274 t275 t276 t277))) = some r := H
    have A4 := Aside0.mk A40
    clear A40
    have HC5 := Aside0.mk H
    clear H
    go_enter Try.func14, Try.ntmps14
    go_upto_region 5 with (first | ((with_reducible refine gate_callee (f := 50) rfl ?_); refine goesL_ (some 11) rfl rfl Try.func50 (by kernel_rfl) rfl #[.slice A0 l0.length c0] rfl (by (try simp only [List.map_toArray, List.map_cons, List.map_nil]); first | done | rfl | (simp only [List.length_drop, List.length_take]; rfl)) ?_; (with_reducible refine (spec_DrawLeastInside.calls k _ _ l0 t269 t270 t271 t272 t273 t274 t275 t276 t277 _ ?side1 ?side2 A3.out).mono ?_); (case side1 => repeat (first | exact HR0.out | (with_reducible refine Kd.C_alloc ?_ _) | (with_reducible refine Kd.C_drewN ?_ _) | (with_reducible refine Kd.C_drew ?_))); (case side2 => exact HC0.out); rintro e w6 ⟨rfl, hb⟩; refine ⟨_, rfl, ?_⟩; have n0_ := Aside0.mk (below_step (by repeat (first | (with_reducible first | exact HB.out | apply below_alloc | apply pw_below_drewN | apply below_drew1) | exact HB.out)) hb); clear HB; have HB := n0_; clear n0_; (try clear hb); (try clear hb2); (try clear hk); (try clear hi)) | ((with_reducible refine gate_dst (N := 3) rfl ?_); refine box_event ?hg (N := 3) ?hd (cs := #[.int .i64 0, .int .i64 0, .int .i64 0, .int .i64 0, .int .i64 0, .int .i64 0, .int .i64 0, .int .i64 0, .int .i64 0]) (t := 44) ?hr ?_; (case hd => rfl); (case hg => rfl); (case hr => first | (go_simp; done) | (go_simp; rfl)); intro gb278 hg w7 hbox hb; have n0_ := Aside0.mk (below_step (by repeat (first | (with_reducible first | exact HB.out | apply below_alloc | apply pw_below_drewN | apply below_drew1) | exact HB.out)) hb); have n1_ := Aside0.mk (hbox); have n2_ := Aside0.mk ((by rw [hg]; exact (below_size (by repeat (first | (with_reducible first | exact HB.out | apply below_alloc | apply pw_below_drewN | apply below_drew1) | exact HB.out))) : w.heap.size ≤ gb278)); have n3_ := Aside0.mk ((by rw [hg]; exact (below_size (by repeat (first | (with_reducible first | exact HB.out | apply below_alloc | apply pw_below_drewN | apply below_drew1) | exact HB.out))) : w.heap.size ≤ gb278)); clear HB; have HB := n0_; have BK278 := n1_; have GW278 := n2_; have GE278 := n3_; clear n0_ n1_ n2_ n3_; clear hb hbox hg; have hcz8_0 : w7.cell? ⟨gb278, 0, none⟩ = some (.int .i64 0) := (blk_cell BK278.out 0).trans rfl; have hcz8_1 : w7.cell? ⟨gb278, 1, none⟩ = some (.int .i64 0) := (blk_cell BK278.out 1).trans rfl; have hcz8_2 : w7.cell? ⟨gb278, 2, none⟩ = some (.int .i64 0) := (blk_cell BK278.out 2).trans rfl; have hcz8_3 : w7.cell? ⟨gb278, 3, none⟩ = some (.int .i64 0) := (blk_cell BK278.out 3).trans rfl; have hcz8_4 : w7.cell? ⟨gb278, 4, none⟩ = some (.int .i64 0) := (blk_cell BK278.out 4).trans rfl; have hcz8_5 : w7.cell? ⟨gb278, 5, none⟩ = some (.int .i64 0) := (blk_cell BK278.out 5).trans rfl; have hcz8_6 : w7.cell? ⟨gb278, 6, none⟩ = some (.int .i64 0) := (blk_cell BK278.out 6).trans rfl; have hcz8_7 : w7.cell? ⟨gb278, 7, none⟩ = some (.int .i64 0) := (blk_cell BK278.out 7).trans rfl; have hcz8_8 : w7.cell? ⟨gb278, 8, none⟩ = some (.int .i64 0) := (blk_cell BK278.out 8).trans rfl; have hfz8_0 := blk_frozen BK278.out 0; have hfz8_1 := blk_frozen BK278.out 1; have hfz8_2 := blk_frozen BK278.out 2; have hfz8_3 := blk_frozen BK278.out 3; have hfz8_4 := blk_frozen BK278.out 4; have hfz8_5 := blk_frozen BK278.out 5; have hfz8_6 := blk_frozen BK278.out 6; have hfz8_7 := blk_frozen BK278.out 7; have hfz8_8 := blk_frozen BK278.out 8) | ((with_reducible refine gate_callee (f := 30) rfl ?_); refine goesL_ (some 13) rfl rfl Try.func30 (by kernel_rfl) rfl #[.agg #[.int .i64 t269, .int .i64 t270, .int .i64 t271, .int .i64 t272, .int .i64 t273, .int .i64 t274, .int .i64 t275, .int .i64 t276, .int .i64 t277]] rfl (by (try simp only [List.map_toArray, List.map_cons, List.map_nil]); first | done | rfl | (simp only [List.length_drop, List.length_take]; rfl)) ?_; (with_reducible refine (impl_LeastInside.calls k t269 t270 t271 t272 t273 t274 t275 t276 t277 t279 _ A4.out).mono ?_); rintro e w9 ⟨rfl, hb⟩; refine ⟨_, rfl, ?_⟩; have n0_ := Aside0.mk (blk_below (g := gb278) (o := .cells #[.int .i64 t269, .int .i64 t270, .int .i64 t271, .int .i64 t272, .int .i64 t273, .int .i64 t274, .int .i64 t275, .int .i64 t276, .int .i64 t277] 44 (0, 0)) (by (with_reducible repeat (first | refine blk_drewN ?_ _ | refine blk_drew ?_ | refine blk_alloc ?_ _)); refine blk_put (cs := #[.int .i64 t269, .int .i64 t270, .int .i64 t271, .int .i64 t272, .int .i64 t273, .int .i64 t274, .int .i64 t275, .int .i64 t276, .int .i64 0]) ?_ 8 _ rfl; (with_reducible repeat (first | refine blk_drewN ?_ _ | refine blk_drew ?_ | refine blk_alloc ?_ _)); refine blk_put (cs := #[.int .i64 t269, .int .i64 t270, .int .i64 t271, .int .i64 t272, .int .i64 t273, .int .i64 t274, .int .i64 t275, .int .i64 0, .int .i64 0]) ?_ 7 _ rfl; (with_reducible repeat (first | refine blk_drewN ?_ _ | refine blk_drew ?_ | refine blk_alloc ?_ _)); refine blk_put (cs := #[.int .i64 t269, .int .i64 t270, .int .i64 t271, .int .i64 t272, .int .i64 t273, .int .i64 t274, .int .i64 0, .int .i64 0, .int .i64 0]) ?_ 6 _ rfl; (with_reducible repeat (first | refine blk_drewN ?_ _ | refine blk_drew ?_ | refine blk_alloc ?_ _)); refine blk_put (cs := #[.int .i64 t269, .int .i64 t270, .int .i64 t271, .int .i64 t272, .int .i64 t273, .int .i64 0, .int .i64 0, .int .i64 0, .int .i64 0]) ?_ 5 _ rfl; (with_reducible repeat (first | refine blk_drewN ?_ _ | refine blk_drew ?_ | refine blk_alloc ?_ _)); refine blk_put (cs := #[.int .i64 t269, .int .i64 t270, .int .i64 t271, .int .i64 t272, .int .i64 0, .int .i64 0, .int .i64 0, .int .i64 0, .int .i64 0]) ?_ 4 _ rfl; (with_reducible repeat (first | refine blk_drewN ?_ _ | refine blk_drew ?_ | refine blk_alloc ?_ _)); refine blk_put (cs := #[.int .i64 t269, .int .i64 t270, .int .i64 t271, .int .i64 0, .int .i64 0, .int .i64 0, .int .i64 0, .int .i64 0, .int .i64 0]) ?_ 3 _ rfl; (with_reducible repeat (first | refine blk_drewN ?_ _ | refine blk_drew ?_ | refine blk_alloc ?_ _)); refine blk_put (cs := #[.int .i64 t269, .int .i64 t270, .int .i64 0, .int .i64 0, .int .i64 0, .int .i64 0, .int .i64 0, .int .i64 0, .int .i64 0]) ?_ 2 _ rfl; (with_reducible repeat (first | refine blk_drewN ?_ _ | refine blk_drew ?_ | refine blk_alloc ?_ _)); refine blk_put (cs := #[.int .i64 t269, .int .i64 0, .int .i64 0, .int .i64 0, .int .i64 0, .int .i64 0, .int .i64 0, .int .i64 0, .int .i64 0]) ?_ 1 _ rfl; (with_reducible repeat (first | refine blk_drewN ?_ _ | refine blk_drew ?_ | refine blk_alloc ?_ _)); refine blk_put (cs := #[.int .i64 0, .int .i64 0, .int .i64 0, .int .i64 0, .int .i64 0, .int .i64 0, .int .i64 0, .int .i64 0, .int .i64 0]) ?_ 0 _ rfl; (with_reducible repeat (first | refine blk_drewN ?_ _ | refine blk_drew ?_ | refine blk_alloc ?_ _)); exact BK278.out) hb); have n1_ := Aside0.mk (below_step (by repeat (first | (with_reducible first | exact HB.out | apply below_alloc | apply pw_below_drewN | apply below_drew1 | refine below_set ?_ GE278.out) | exact HB.out)) hb); clear BK278; clear HB; have BK278 := n0_; have HB := n1_; clear n0_ n1_; (try clear hb); (try clear hb2); (try clear hk); (try clear hi)))
    (try simp only [Act.put, List.setIfInBounds_toArray, List.set_cons_zero, List.set_cons_succ])
    go_cut [22] (fun v22 wc => ∃ (kq : Nat) (x22_4 : Bool), v22 = .bool x22_4 ∧ Aside0 (laws_FnLeastInside.j0 kq t279 x22_4 t269 t270 t271 t272 t273 t274 t275 t276 t277 = some r) ∧ Aside0 (kq ≤ k) ∧ Aside0 (wc.heap[gb278]? = some (.cells #[.int .i64 t269, .int .i64 t270, .int .i64 t271, .int .i64 t272, .int .i64 t273, .int .i64 t274, .int .i64 t275, .int .i64 t276, .int .i64 t277] 44 (0, 0))) ∧ Aside0 (Below w.heap.size w wc))
    case first =>
      have H := HC5.out
      clear HC5
      replace H := Option.bind_eq_some_iff.mp H
      obtain ⟨t280, A100, H⟩ := H
      replace H : (if t279 = t280 then ((impl_ValidPlace.f k t269 t270 t271 t272 t273 t274 t275 t276 t277).bind fun t281 => (laws_FnLeastInside.j0 k t279 (!t281) t269 t270 t271 t272 t273 t274 t275 t276 t277)) else (laws_FnLeastInside.j0 k t279 true t269 t270 t271 t272 t273 t274 t275 t276 t277)) = some r := H
      have A10 := Aside0.mk A100
      clear A100
      by_cases c11 : t279 = t280
      · rw [if_pos c11] at H
        have c11b0 : (t279 == t280) = true := beq_iff_eq.mpr c11
        have c11b1 : (t279 != t280) = false := bne_eq_false_iff_eq.mpr c11
        clear c11
        (first | rw [c11b0] | (simp only [i64_w, i32_w]; rw [c11b0]) | skip)
        replace H := Option.bind_eq_some_iff.mp H
        obtain ⟨t281, A120, H⟩ := H
        replace H : (laws_FnLeastInside.j0 k t279 (!t281) t269 t270 t271 t272 t273 t274 t275 t276 t277) = some r := H
        have A12 := Aside0.mk A120
        clear A120
        have H' := Aside0.mk H
        clear H
        have hcz13_0 : w9.cell? ⟨gb278, 0, none⟩ = some (.int .i64 t269) := (blk_cell BK278.out 0).trans rfl
        have hcz13_1 : w9.cell? ⟨gb278, 1, none⟩ = some (.int .i64 t270) := (blk_cell BK278.out 1).trans rfl
        have hcz13_2 : w9.cell? ⟨gb278, 2, none⟩ = some (.int .i64 t271) := (blk_cell BK278.out 2).trans rfl
        have hcz13_3 : w9.cell? ⟨gb278, 3, none⟩ = some (.int .i64 t272) := (blk_cell BK278.out 3).trans rfl
        have hcz13_4 : w9.cell? ⟨gb278, 4, none⟩ = some (.int .i64 t273) := (blk_cell BK278.out 4).trans rfl
        have hcz13_5 : w9.cell? ⟨gb278, 5, none⟩ = some (.int .i64 t274) := (blk_cell BK278.out 5).trans rfl
        have hcz13_6 : w9.cell? ⟨gb278, 6, none⟩ = some (.int .i64 t275) := (blk_cell BK278.out 6).trans rfl
        have hcz13_7 : w9.cell? ⟨gb278, 7, none⟩ = some (.int .i64 t276) := (blk_cell BK278.out 7).trans rfl
        have hcz13_8 : w9.cell? ⟨gb278, 8, none⟩ = some (.int .i64 t277) := (blk_cell BK278.out 8).trans rfl
        have hfz13_0 := blk_frozen BK278.out 0
        have hfz13_1 := blk_frozen BK278.out 1
        have hfz13_2 := blk_frozen BK278.out 2
        have hfz13_3 := blk_frozen BK278.out 3
        have hfz13_4 := blk_frozen BK278.out 4
        have hfz13_5 := blk_frozen BK278.out 5
        have hfz13_6 := blk_frozen BK278.out 6
        have hfz13_7 := blk_frozen BK278.out 7
        have hfz13_8 := blk_frozen BK278.out 8
        go_wp2_with (first | ((with_reducible refine gate_callee (f := 28) rfl ?_); refine goesL_ (some 16) rfl rfl Try.func28 (by kernel_rfl) rfl #[.agg #[.int .i64 t269, .int .i64 t270, .int .i64 t271, .int .i64 t272, .int .i64 t273, .int .i64 t274, .int .i64 t275, .int .i64 t276, .int .i64 t277]] rfl (by (try simp only [List.map_toArray, List.map_cons, List.map_nil]); first | done | rfl | (simp only [List.length_drop, List.length_take]; rfl)) ?_; (with_reducible refine (spec_LeastInside.calls k t269 t270 t271 t272 t273 t274 t275 t276 t277 t280 _ A10.out).mono ?_); rintro e w14 ⟨rfl, hb⟩; refine ⟨_, rfl, ?_⟩; have n0_ := Aside0.mk (blk_below (g := gb278) (o := .cells #[.int .i64 t269, .int .i64 t270, .int .i64 t271, .int .i64 t272, .int .i64 t273, .int .i64 t274, .int .i64 t275, .int .i64 t276, .int .i64 t277] 44 (0, 0)) (by (with_reducible repeat (first | refine blk_drewN ?_ _ | refine blk_drew ?_ | refine blk_alloc ?_ _)); exact BK278.out) hb); have n1_ := Aside0.mk (below_step (by repeat (first | (with_reducible first | exact HB.out | apply below_alloc | apply pw_below_drewN | apply below_drew1 | refine below_set ?_ GE278.out) | exact HB.out)) hb); clear BK278; clear HB; have BK278 := n0_; have HB := n1_; clear n0_ n1_; (try clear hb); (try clear hb2); (try clear hk); (try clear hi); have hcz15_0 : w14.cell? ⟨gb278, 0, none⟩ = some (.int .i64 t269) := (blk_cell BK278.out 0).trans rfl; have hcz15_1 : w14.cell? ⟨gb278, 1, none⟩ = some (.int .i64 t270) := (blk_cell BK278.out 1).trans rfl; have hcz15_2 : w14.cell? ⟨gb278, 2, none⟩ = some (.int .i64 t271) := (blk_cell BK278.out 2).trans rfl; have hcz15_3 : w14.cell? ⟨gb278, 3, none⟩ = some (.int .i64 t272) := (blk_cell BK278.out 3).trans rfl; have hcz15_4 : w14.cell? ⟨gb278, 4, none⟩ = some (.int .i64 t273) := (blk_cell BK278.out 4).trans rfl; have hcz15_5 : w14.cell? ⟨gb278, 5, none⟩ = some (.int .i64 t274) := (blk_cell BK278.out 5).trans rfl; have hcz15_6 : w14.cell? ⟨gb278, 6, none⟩ = some (.int .i64 t275) := (blk_cell BK278.out 6).trans rfl; have hcz15_7 : w14.cell? ⟨gb278, 7, none⟩ = some (.int .i64 t276) := (blk_cell BK278.out 7).trans rfl; have hcz15_8 : w14.cell? ⟨gb278, 8, none⟩ = some (.int .i64 t277) := (blk_cell BK278.out 8).trans rfl; have hfz15_0 := blk_frozen BK278.out 0; have hfz15_1 := blk_frozen BK278.out 1; have hfz15_2 := blk_frozen BK278.out 2; have hfz15_3 := blk_frozen BK278.out 3; have hfz15_4 := blk_frozen BK278.out 4; have hfz15_5 := blk_frozen BK278.out 5; have hfz15_6 := blk_frozen BK278.out 6; have hfz15_7 := blk_frozen BK278.out 7; have hfz15_8 := blk_frozen BK278.out 8) | (go_at_call 42; (with_reducible refine (impl_ValidPlace.calls k t269 t270 t271 t272 t273 t274 t275 t276 t277 t281 _ A12.out).mono ?_); rintro e w16 ⟨rfl, hb⟩; have n0_ := Aside0.mk (blk_below (g := gb278) (o := .cells #[.int .i64 t269, .int .i64 t270, .int .i64 t271, .int .i64 t272, .int .i64 t273, .int .i64 t274, .int .i64 t275, .int .i64 t276, .int .i64 t277] 44 (0, 0)) (by (with_reducible repeat (first | refine blk_drewN ?_ _ | refine blk_drew ?_ | refine blk_alloc ?_ _)); exact BK278.out) hb); have n1_ := Aside0.mk (below_step (by repeat (first | (with_reducible first | exact HB.out | apply below_alloc | apply pw_below_drewN | apply below_drew1 | refine below_set ?_ GE278.out) | exact HB.out)) hb); clear BK278; clear HB; have BK278 := n0_; have HB := n1_; clear n0_ n1_; (try clear hb); (try clear hb2); (try clear hk); (try clear hi)))
        go_meet
        case rel => exact ⟨_, (!t281), (by first | rfl | (simp; done) | (simp [*]; done)), H', ⟨by first | omega | exact Nat.le_refl _⟩, ⟨by (with_reducible repeat (first | refine blk_drewN ?_ _ | refine blk_drew ?_ | refine blk_alloc ?_ _)); exact BK278.out⟩, ⟨by repeat (first | (with_reducible first | exact HB.out | apply below_alloc | apply pw_below_drewN | apply below_drew1 | refine below_set ?_ GE278.out) | exact HB.out)⟩⟩
      · rw [if_neg c11] at H
        have c11b0 : (t279 == t280) = false := beq_eq_false_iff_ne.mpr c11
        have c11b1 : (t279 != t280) = true := bne_iff_ne.mpr c11
        (first | rw [c11b0] | (simp only [i64_w, i32_w]; rw [c11b0]) | skip)
        have H' := Aside0.mk H
        clear H
        have hcz17_0 : w9.cell? ⟨gb278, 0, none⟩ = some (.int .i64 t269) := (blk_cell BK278.out 0).trans rfl
        have hcz17_1 : w9.cell? ⟨gb278, 1, none⟩ = some (.int .i64 t270) := (blk_cell BK278.out 1).trans rfl
        have hcz17_2 : w9.cell? ⟨gb278, 2, none⟩ = some (.int .i64 t271) := (blk_cell BK278.out 2).trans rfl
        have hcz17_3 : w9.cell? ⟨gb278, 3, none⟩ = some (.int .i64 t272) := (blk_cell BK278.out 3).trans rfl
        have hcz17_4 : w9.cell? ⟨gb278, 4, none⟩ = some (.int .i64 t273) := (blk_cell BK278.out 4).trans rfl
        have hcz17_5 : w9.cell? ⟨gb278, 5, none⟩ = some (.int .i64 t274) := (blk_cell BK278.out 5).trans rfl
        have hcz17_6 : w9.cell? ⟨gb278, 6, none⟩ = some (.int .i64 t275) := (blk_cell BK278.out 6).trans rfl
        have hcz17_7 : w9.cell? ⟨gb278, 7, none⟩ = some (.int .i64 t276) := (blk_cell BK278.out 7).trans rfl
        have hcz17_8 : w9.cell? ⟨gb278, 8, none⟩ = some (.int .i64 t277) := (blk_cell BK278.out 8).trans rfl
        have hfz17_0 := blk_frozen BK278.out 0
        have hfz17_1 := blk_frozen BK278.out 1
        have hfz17_2 := blk_frozen BK278.out 2
        have hfz17_3 := blk_frozen BK278.out 3
        have hfz17_4 := blk_frozen BK278.out 4
        have hfz17_5 := blk_frozen BK278.out 5
        have hfz17_6 := blk_frozen BK278.out 6
        have hfz17_7 := blk_frozen BK278.out 7
        have hfz17_8 := blk_frozen BK278.out 8
        go_wp2_with (first | ((with_reducible refine gate_callee (f := 28) rfl ?_); refine goesL_ (some 16) rfl rfl Try.func28 (by kernel_rfl) rfl #[.agg #[.int .i64 t269, .int .i64 t270, .int .i64 t271, .int .i64 t272, .int .i64 t273, .int .i64 t274, .int .i64 t275, .int .i64 t276, .int .i64 t277]] rfl (by (try simp only [List.map_toArray, List.map_cons, List.map_nil]); first | done | rfl | (simp only [List.length_drop, List.length_take]; rfl)) ?_; (with_reducible refine (spec_LeastInside.calls k t269 t270 t271 t272 t273 t274 t275 t276 t277 t280 _ A10.out).mono ?_); rintro e w18 ⟨rfl, hb⟩; refine ⟨_, rfl, ?_⟩; have n0_ := Aside0.mk (blk_below (g := gb278) (o := .cells #[.int .i64 t269, .int .i64 t270, .int .i64 t271, .int .i64 t272, .int .i64 t273, .int .i64 t274, .int .i64 t275, .int .i64 t276, .int .i64 t277] 44 (0, 0)) (by (with_reducible repeat (first | refine blk_drewN ?_ _ | refine blk_drew ?_ | refine blk_alloc ?_ _)); exact BK278.out) hb); have n1_ := Aside0.mk (below_step (by repeat (first | (with_reducible first | exact HB.out | apply below_alloc | apply pw_below_drewN | apply below_drew1 | refine below_set ?_ GE278.out) | exact HB.out)) hb); clear BK278; clear HB; have BK278 := n0_; have HB := n1_; clear n0_ n1_; (try clear hb); (try clear hb2); (try clear hk); (try clear hi)))
        go_meet
        case rel => exact ⟨_, (true), (by first | rfl | (simp; done) | (simp [*]; done)), H', ⟨by first | omega | exact Nat.le_refl _⟩, ⟨by (with_reducible repeat (first | refine blk_drewN ?_ _ | refine blk_drew ?_ | refine blk_alloc ?_ _)); exact BK278.out⟩, ⟨by repeat (first | (with_reducible first | exact HB.out | apply below_alloc | apply pw_below_drewN | apply below_drew1 | refine below_set ?_ GE278.out) | exact HB.out)⟩⟩
    case rest =>
      clear HC5
      try clear c1
      try clear c2
      try clear c2b0
      try clear c2b1
      try clear p2
      try clear c3
      try clear c5
      try clear c11
      try clear c11b0
      try clear c11b1
      try clear c14
      try clear hcz13_0
      try clear hcz13_1
      try clear hcz13_2
      try clear hcz13_3
      try clear hcz13_4
      try clear hcz13_5
      try clear hcz13_6
      try clear hcz13_7
      try clear hcz13_8
      try clear hcz15_0
      try clear hcz15_1
      try clear hcz15_2
      try clear hcz15_3
      try clear hcz15_4
      try clear hcz15_5
      try clear hcz15_6
      try clear hcz15_7
      try clear hcz15_8
      try clear hcz17_0
      try clear hcz17_1
      try clear hcz17_2
      try clear hcz17_3
      try clear hcz17_4
      try clear hcz17_5
      try clear hcz17_6
      try clear hcz17_7
      try clear hcz17_8
      try clear hcz8_0
      try clear hcz8_1
      try clear hcz8_2
      try clear hcz8_3
      try clear hcz8_4
      try clear hcz8_5
      try clear hcz8_6
      try clear hcz8_7
      try clear hcz8_8
      try clear hfz13_0
      try clear hfz13_1
      try clear hfz13_2
      try clear hfz13_3
      try clear hfz13_4
      try clear hfz13_5
      try clear hfz13_6
      try clear hfz13_7
      try clear hfz13_8
      try clear hfz15_0
      try clear hfz15_1
      try clear hfz15_2
      try clear hfz15_3
      try clear hfz15_4
      try clear hfz15_5
      try clear hfz15_6
      try clear hfz15_7
      try clear hfz15_8
      try clear hfz17_0
      try clear hfz17_1
      try clear hfz17_2
      try clear hfz17_3
      try clear hfz17_4
      try clear hfz17_5
      try clear hfz17_6
      try clear hfz17_7
      try clear hfz17_8
      try clear hfz8_0
      try clear hfz8_1
      try clear hfz8_2
      try clear hfz8_3
      try clear hfz8_4
      try clear hfz8_5
      try clear hfz8_6
      try clear hfz8_7
      try clear hfz8_8
      obtain ⟨kq, x22_4, rfl, HA, HJ4, BK278, HB⟩ := hcut
      cases kq with
      | zero => exact absurd HA.out (by simp [laws_FnLeastInside.j0])
      | succ kj4 =>
        have H := HA.out
        clear HA
        simp only [laws_FnLeastInside.j0] at H
        by_cases c19 : x22_4 = true
        · subst c19
          have H1 : ((spec_LeastInside.f kj4 t269 t270 t271 t272 t273 t274 t275 t276 t277).bind fun t282 => (some (t279 == t282))) = some r := by rw [if_pos rfl] at H; exact H
          clear H
          have H := H1
          clear H1
          replace H := Option.bind_eq_some_iff.mp H
          obtain ⟨t282, A200, H⟩ := H
          replace H : (some (t279 == t282)) = some r := H
          have A20 := Aside0.mk A200
          clear A200
          obtain rfl := Option.some.inj H
          have hcz21_0 : wc.cell? ⟨gb278, 0, none⟩ = some (.int .i64 t269) := (blk_cell BK278.out 0).trans rfl
          have hcz21_1 : wc.cell? ⟨gb278, 1, none⟩ = some (.int .i64 t270) := (blk_cell BK278.out 1).trans rfl
          have hcz21_2 : wc.cell? ⟨gb278, 2, none⟩ = some (.int .i64 t271) := (blk_cell BK278.out 2).trans rfl
          have hcz21_3 : wc.cell? ⟨gb278, 3, none⟩ = some (.int .i64 t272) := (blk_cell BK278.out 3).trans rfl
          have hcz21_4 : wc.cell? ⟨gb278, 4, none⟩ = some (.int .i64 t273) := (blk_cell BK278.out 4).trans rfl
          have hcz21_5 : wc.cell? ⟨gb278, 5, none⟩ = some (.int .i64 t274) := (blk_cell BK278.out 5).trans rfl
          have hcz21_6 : wc.cell? ⟨gb278, 6, none⟩ = some (.int .i64 t275) := (blk_cell BK278.out 6).trans rfl
          have hcz21_7 : wc.cell? ⟨gb278, 7, none⟩ = some (.int .i64 t276) := (blk_cell BK278.out 7).trans rfl
          have hcz21_8 : wc.cell? ⟨gb278, 8, none⟩ = some (.int .i64 t277) := (blk_cell BK278.out 8).trans rfl
          have hfz21_0 := blk_frozen BK278.out 0
          have hfz21_1 := blk_frozen BK278.out 1
          have hfz21_2 := blk_frozen BK278.out 2
          have hfz21_3 := blk_frozen BK278.out 3
          have hfz21_4 := blk_frozen BK278.out 4
          have hfz21_5 := blk_frozen BK278.out 5
          have hfz21_6 := blk_frozen BK278.out 6
          have hfz21_7 := blk_frozen BK278.out 7
          have hfz21_8 := blk_frozen BK278.out 8
          go_wp2_with (first | ((with_reducible refine gate_callee (f := 28) rfl ?_); refine goesL_ (some 25) rfl rfl Try.func28 (by kernel_rfl) rfl #[.agg #[.int .i64 t269, .int .i64 t270, .int .i64 t271, .int .i64 t272, .int .i64 t273, .int .i64 t274, .int .i64 t275, .int .i64 t276, .int .i64 t277]] rfl (by (try simp only [List.map_toArray, List.map_cons, List.map_nil]); first | done | rfl | (simp only [List.length_drop, List.length_take]; rfl)) ?_; (with_reducible refine (spec_LeastInside.calls kj4 t269 t270 t271 t272 t273 t274 t275 t276 t277 t282 _ A20.out).mono ?_); rintro e w22 ⟨rfl, hb⟩; refine ⟨_, rfl, ?_⟩; have n0_ := Aside0.mk (blk_below (g := gb278) (o := .cells #[.int .i64 t269, .int .i64 t270, .int .i64 t271, .int .i64 t272, .int .i64 t273, .int .i64 t274, .int .i64 t275, .int .i64 t276, .int .i64 t277] 44 (0, 0)) (by (with_reducible repeat (first | refine blk_drewN ?_ _ | refine blk_drew ?_ | refine blk_alloc ?_ _)); exact BK278.out) hb); have n1_ := Aside0.mk (below_step (by repeat (first | (with_reducible first | exact HB.out | apply below_alloc | apply pw_below_drewN | apply below_drew1 | refine below_set ?_ GE278.out) | exact HB.out)) hb); clear BK278; clear HB; have BK278 := n0_; have HB := n1_; clear n0_ n1_; (try clear hb); (try clear hb2); (try clear hk); (try clear hi)))
          go_ret
          exact ⟨by first | rfl | (simp [errW_none, errW_some] <;> rfl) | (simp [*, errW_none, errW_some] <;> rfl), by repeat (first | (with_reducible first | exact HB.out | apply below_alloc | apply pw_below_drewN | apply below_drew1 | refine below_set ?_ GE278.out) | exact HB.out)⟩
        · replace c19 := Bool.eq_false_iff.mpr c19
          subst c19
          have H1 : (if t279 < 0 then (laws_FnLeastInside.j1 kj4 t279 401 t269 t270 t271 t272 t273 t274 t275 t276 t277) else (laws_FnLeastInside.j1 kj4 t279 t279 t269 t270 t271 t272 t273 t274 t275 t276 t277)) = some r := by rw [if_neg (show ¬ (false = true) by decide)] at H; exact H
          clear H
          have H := H1
          clear H1
          have HC23 := Aside0.mk H
          clear H
          go_upto_if 29 with (fail)
          go_cut [5] (fun v5 wc => ∃ (kq : Nat) (x5_22 : Int), v5 = .int .i64 x5_22 ∧ Aside0 (laws_FnLeastInside.j1 kq t279 x5_22 t269 t270 t271 t272 t273 t274 t275 t276 t277 = some r) ∧ Aside0 (kq ≤ kj4) ∧ Aside0 (wc.heap[gb278]? = some (.cells #[.int .i64 t269, .int .i64 t270, .int .i64 t271, .int .i64 t272, .int .i64 t273, .int .i64 t274, .int .i64 t275, .int .i64 t276, .int .i64 t277] 44 (0, 0))) ∧ Aside0 (Below w.heap.size w wc))
          case first =>
            have H := HC23.out
            clear HC23
            by_cases c24 : t279 < 0
            · rw [if_pos c24] at H
              have c24b0 : decide (t279 < 0) = true := decide_eq_true c24
              clear c24
              (first | rw [c24b0] | (simp only [i64_w, i32_w]; rw [c24b0]) | skip)
              have H' := Aside0.mk H
              clear H
              go_wp2
              go_meet
              case rel => exact ⟨_, (401), (by first | rfl | (simp; done) | (simp [*]; done)), H', ⟨by have := HJ4.out; first | omega | exact Nat.le_refl _⟩, ⟨by (with_reducible repeat (first | refine blk_drewN ?_ _ | refine blk_drew ?_ | refine blk_alloc ?_ _)); exact BK278.out⟩, ⟨by repeat (first | (with_reducible first | exact HB.out | apply below_alloc | apply pw_below_drewN | apply below_drew1 | refine below_set ?_ GE278.out) | exact HB.out)⟩⟩
            · rw [if_neg c24] at H
              have c24b0 : decide (t279 < 0) = false := decide_eq_false c24
              clear c24
              (first | rw [c24b0] | (simp only [i64_w, i32_w]; rw [c24b0]) | skip)
              have H' := Aside0.mk H
              clear H
              go_wp2
              go_meet
              case rel => exact ⟨_, (t279), (by first | rfl | (simp; done) | (simp [*]; done)), H', ⟨by have := HJ4.out; first | omega | exact Nat.le_refl _⟩, ⟨by (with_reducible repeat (first | refine blk_drewN ?_ _ | refine blk_drew ?_ | refine blk_alloc ?_ _)); exact BK278.out⟩, ⟨by repeat (first | (with_reducible first | exact HB.out | apply below_alloc | apply pw_below_drewN | apply below_drew1 | refine below_set ?_ GE278.out) | exact HB.out)⟩⟩
          case rest =>
            clear HC23
            try clear c1
            try clear c2
            try clear c2b0
            try clear c2b1
            try clear p2
            try clear c3
            try clear c5
            try clear c11
            try clear c11b0
            try clear c11b1
            try clear c14
            try clear c19
            try clear c24
            try clear c24b0
            try clear hcz13_0
            try clear hcz13_1
            try clear hcz13_2
            try clear hcz13_3
            try clear hcz13_4
            try clear hcz13_5
            try clear hcz13_6
            try clear hcz13_7
            try clear hcz13_8
            try clear hcz15_0
            try clear hcz15_1
            try clear hcz15_2
            try clear hcz15_3
            try clear hcz15_4
            try clear hcz15_5
            try clear hcz15_6
            try clear hcz15_7
            try clear hcz15_8
            try clear hcz17_0
            try clear hcz17_1
            try clear hcz17_2
            try clear hcz17_3
            try clear hcz17_4
            try clear hcz17_5
            try clear hcz17_6
            try clear hcz17_7
            try clear hcz17_8
            try clear hcz21_0
            try clear hcz21_1
            try clear hcz21_2
            try clear hcz21_3
            try clear hcz21_4
            try clear hcz21_5
            try clear hcz21_6
            try clear hcz21_7
            try clear hcz21_8
            try clear hcz8_0
            try clear hcz8_1
            try clear hcz8_2
            try clear hcz8_3
            try clear hcz8_4
            try clear hcz8_5
            try clear hcz8_6
            try clear hcz8_7
            try clear hcz8_8
            try clear hfz13_0
            try clear hfz13_1
            try clear hfz13_2
            try clear hfz13_3
            try clear hfz13_4
            try clear hfz13_5
            try clear hfz13_6
            try clear hfz13_7
            try clear hfz13_8
            try clear hfz15_0
            try clear hfz15_1
            try clear hfz15_2
            try clear hfz15_3
            try clear hfz15_4
            try clear hfz15_5
            try clear hfz15_6
            try clear hfz15_7
            try clear hfz15_8
            try clear hfz17_0
            try clear hfz17_1
            try clear hfz17_2
            try clear hfz17_3
            try clear hfz17_4
            try clear hfz17_5
            try clear hfz17_6
            try clear hfz17_7
            try clear hfz17_8
            try clear hfz21_0
            try clear hfz21_1
            try clear hfz21_2
            try clear hfz21_3
            try clear hfz21_4
            try clear hfz21_5
            try clear hfz21_6
            try clear hfz21_7
            try clear hfz21_8
            try clear hfz8_0
            try clear hfz8_1
            try clear hfz8_2
            try clear hfz8_3
            try clear hfz8_4
            try clear hfz8_5
            try clear hfz8_6
            try clear hfz8_7
            try clear hfz8_8
            try clear p2
            obtain ⟨kq, x5_22, rfl, HA, HJ22, BK278, HB⟩ := hcut
            cases kq with
            | zero => exact absurd HA.out (by simp [laws_FnLeastInside.j1])
            | succ kj22 =>
              have H := HA.out
              clear HA
              simp only [laws_FnLeastInside.j1] at H
              have H' := Aside0.mk H
              clear H
              go_wp2
              go_loopg [6] kj22 (fun kq v6 w' => ∃ (x6_3 : Int), v6 = .int .i64 x6_3 ∧ Aside0 (laws_FnLeastInside.l0 kq t279 x5_22 x6_3 t269 t270 t271 t272 t273 t274 t275 t276 t277 = some r) ∧ Aside0 (kq ≤ kj22) ∧ Aside0 (w'.heap[gb278]? = some (.cells #[.int .i64 t269, .int .i64 t270, .int .i64 t271, .int .i64 t272, .int .i64 t273, .int .i64 t274, .int .i64 t275, .int .i64 t276, .int .i64 t277] 44 (0, 0))) ∧ Aside0 (Below w.heap.size w w'))
              case atStart => exact ⟨(0), (by first | rfl | (simp; done) | (simp [*]; done)), H', ⟨Nat.le_refl _⟩, ⟨by (with_reducible repeat (first | refine blk_drewN ?_ _ | refine blk_drew ?_ | refine blk_alloc ?_ _)); exact BK278.out⟩, ⟨by repeat (first | (with_reducible first | exact HB.out | apply below_alloc | apply pw_below_drewN | apply below_drew1 | refine below_set ?_ GE278.out) | exact HB.out)⟩⟩
              case round =>
                clear H'
                try clear c1
                try clear c2
                try clear c2b0
                try clear c2b1
                try clear p2
                try clear c3
                try clear c5
                try clear c11
                try clear c11b0
                try clear c11b1
                try clear c14
                try clear c19
                try clear c24
                try clear c24b0
                try clear hcz13_0
                try clear hcz13_1
                try clear hcz13_2
                try clear hcz13_3
                try clear hcz13_4
                try clear hcz13_5
                try clear hcz13_6
                try clear hcz13_7
                try clear hcz13_8
                try clear hcz15_0
                try clear hcz15_1
                try clear hcz15_2
                try clear hcz15_3
                try clear hcz15_4
                try clear hcz15_5
                try clear hcz15_6
                try clear hcz15_7
                try clear hcz15_8
                try clear hcz17_0
                try clear hcz17_1
                try clear hcz17_2
                try clear hcz17_3
                try clear hcz17_4
                try clear hcz17_5
                try clear hcz17_6
                try clear hcz17_7
                try clear hcz17_8
                try clear hcz21_0
                try clear hcz21_1
                try clear hcz21_2
                try clear hcz21_3
                try clear hcz21_4
                try clear hcz21_5
                try clear hcz21_6
                try clear hcz21_7
                try clear hcz21_8
                try clear hcz8_0
                try clear hcz8_1
                try clear hcz8_2
                try clear hcz8_3
                try clear hcz8_4
                try clear hcz8_5
                try clear hcz8_6
                try clear hcz8_7
                try clear hcz8_8
                try clear hfz13_0
                try clear hfz13_1
                try clear hfz13_2
                try clear hfz13_3
                try clear hfz13_4
                try clear hfz13_5
                try clear hfz13_6
                try clear hfz13_7
                try clear hfz13_8
                try clear hfz15_0
                try clear hfz15_1
                try clear hfz15_2
                try clear hfz15_3
                try clear hfz15_4
                try clear hfz15_5
                try clear hfz15_6
                try clear hfz15_7
                try clear hfz15_8
                try clear hfz17_0
                try clear hfz17_1
                try clear hfz17_2
                try clear hfz17_3
                try clear hfz17_4
                try clear hfz17_5
                try clear hfz17_6
                try clear hfz17_7
                try clear hfz17_8
                try clear hfz21_0
                try clear hfz21_1
                try clear hfz21_2
                try clear hfz21_3
                try clear hfz21_4
                try clear hfz21_5
                try clear hfz21_6
                try clear hfz21_7
                try clear hfz21_8
                try clear hfz8_0
                try clear hfz8_1
                try clear hfz8_2
                try clear hfz8_3
                try clear hfz8_4
                try clear hfz8_5
                try clear hfz8_6
                try clear hfz8_7
                try clear hfz8_8
                try clear p2
                obtain ⟨x6_3, rfl, HA, HK3, BK278, HB⟩ := hrel
                cases gk with
                | zero => exact absurd HA.out (by simp [laws_FnLeastInside.l0])
                | succ k3 =>
                  have H := HA.out
                  clear HA
                  simp only [laws_FnLeastInside.l0] at H
                  by_cases c25 : x6_3 < x5_22
                  · rw [if_pos c25] at H
                    have c25b0 : decide (x6_3 < x5_22) = true := decide_eq_true c25
                    clear c25
                    replace H := Option.bind_eq_some_iff.mp H
                    obtain ⟨t283, A260, H⟩ := H
                    replace H : (if t283 = true then (some false) else (laws_FnLeastInside.l0 k3 t279 x5_22 (wrap64 (x6_3 + 1)) t269 t270 t271 t272 t273 t274 t275 t276 t277)) = some r := H
                    have A26 := Aside0.mk A260
                    clear A260
                    by_cases c27 : t283 = true
                    · subst c27
                      have H1 : (some false) = some r := by rw [if_pos rfl] at H; exact H
                      clear H
                      have H := H1
                      clear H1
                      obtain rfl := Option.some.inj H
                      have hcz28_0 : wr.cell? ⟨gb278, 0, none⟩ = some (.int .i64 t269) := (blk_cell BK278.out 0).trans rfl
                      have hcz28_1 : wr.cell? ⟨gb278, 1, none⟩ = some (.int .i64 t270) := (blk_cell BK278.out 1).trans rfl
                      have hcz28_2 : wr.cell? ⟨gb278, 2, none⟩ = some (.int .i64 t271) := (blk_cell BK278.out 2).trans rfl
                      have hcz28_3 : wr.cell? ⟨gb278, 3, none⟩ = some (.int .i64 t272) := (blk_cell BK278.out 3).trans rfl
                      have hcz28_4 : wr.cell? ⟨gb278, 4, none⟩ = some (.int .i64 t273) := (blk_cell BK278.out 4).trans rfl
                      have hcz28_5 : wr.cell? ⟨gb278, 5, none⟩ = some (.int .i64 t274) := (blk_cell BK278.out 5).trans rfl
                      have hcz28_6 : wr.cell? ⟨gb278, 6, none⟩ = some (.int .i64 t275) := (blk_cell BK278.out 6).trans rfl
                      have hcz28_7 : wr.cell? ⟨gb278, 7, none⟩ = some (.int .i64 t276) := (blk_cell BK278.out 7).trans rfl
                      have hcz28_8 : wr.cell? ⟨gb278, 8, none⟩ = some (.int .i64 t277) := (blk_cell BK278.out 8).trans rfl
                      have hfz28_0 := blk_frozen BK278.out 0
                      have hfz28_1 := blk_frozen BK278.out 1
                      have hfz28_2 := blk_frozen BK278.out 2
                      have hfz28_3 := blk_frozen BK278.out 3
                      have hfz28_4 := blk_frozen BK278.out 4
                      have hfz28_5 := blk_frozen BK278.out 5
                      have hfz28_6 := blk_frozen BK278.out 6
                      have hfz28_7 := blk_frozen BK278.out 7
                      have hfz28_8 := blk_frozen BK278.out 8
                      go_wp2_with (first | ((with_reducible refine gate_callee (f := 51) rfl ?_); refine goesL_ (some 38) rfl rfl Try.func51 (by kernel_rfl) rfl #[.agg #[.int .i64 t269, .int .i64 t270, .int .i64 t271, .int .i64 t272, .int .i64 t273, .int .i64 t274, .int .i64 t275, .int .i64 t276, .int .i64 t277], .int .i64 x6_3, .int .i64 x6_3] rfl (by (try simp only [List.map_toArray, List.map_cons, List.map_nil]); first | done | rfl | (simp only [List.length_drop, List.length_take]; rfl)) ?_; (with_reducible refine (impl_PlaceInside.calls k3 t269 t270 t271 t272 t273 t274 t275 t276 t277 x6_3 x6_3 true _ A26.out).mono ?_); rintro e w29 ⟨rfl, hb⟩; refine ⟨_, rfl, ?_⟩; have n0_ := Aside0.mk (blk_below (g := gb278) (o := .cells #[.int .i64 t269, .int .i64 t270, .int .i64 t271, .int .i64 t272, .int .i64 t273, .int .i64 t274, .int .i64 t275, .int .i64 t276, .int .i64 t277] 44 (0, 0)) (by (with_reducible repeat (first | refine blk_drewN ?_ _ | refine blk_drew ?_ | refine blk_alloc ?_ _)); exact BK278.out) hb); have n1_ := Aside0.mk (below_step (by repeat (first | (with_reducible first | exact HB.out | apply below_alloc | apply pw_below_drewN | apply below_drew1 | refine below_set ?_ GE278.out) | exact HB.out)) hb); clear BK278; clear HB; have BK278 := n0_; have HB := n1_; clear n0_ n1_; (try clear hb); (try clear hb2); (try clear hk); (try clear hi)))
                      go_ret
                      exact ⟨by first | rfl | (simp [errW_none, errW_some] <;> rfl) | (simp [*, errW_none, errW_some] <;> rfl), by repeat (first | (with_reducible first | exact HB.out | apply below_alloc | apply pw_below_drewN | apply below_drew1 | refine below_set ?_ GE278.out) | exact HB.out)⟩
                    · replace c27 := Bool.eq_false_iff.mpr c27
                      subst c27
                      have H1 : (laws_FnLeastInside.l0 k3 t279 x5_22 (wrap64 (x6_3 + 1)) t269 t270 t271 t272 t273 t274 t275 t276 t277) = some r := by rw [if_neg (show ¬ (false = true) by decide)] at H; exact H
                      clear H
                      have H := H1
                      clear H1
                      have H' := Aside0.mk H
                      clear H
                      have hcz30_0 : wr.cell? ⟨gb278, 0, none⟩ = some (.int .i64 t269) := (blk_cell BK278.out 0).trans rfl
                      have hcz30_1 : wr.cell? ⟨gb278, 1, none⟩ = some (.int .i64 t270) := (blk_cell BK278.out 1).trans rfl
                      have hcz30_2 : wr.cell? ⟨gb278, 2, none⟩ = some (.int .i64 t271) := (blk_cell BK278.out 2).trans rfl
                      have hcz30_3 : wr.cell? ⟨gb278, 3, none⟩ = some (.int .i64 t272) := (blk_cell BK278.out 3).trans rfl
                      have hcz30_4 : wr.cell? ⟨gb278, 4, none⟩ = some (.int .i64 t273) := (blk_cell BK278.out 4).trans rfl
                      have hcz30_5 : wr.cell? ⟨gb278, 5, none⟩ = some (.int .i64 t274) := (blk_cell BK278.out 5).trans rfl
                      have hcz30_6 : wr.cell? ⟨gb278, 6, none⟩ = some (.int .i64 t275) := (blk_cell BK278.out 6).trans rfl
                      have hcz30_7 : wr.cell? ⟨gb278, 7, none⟩ = some (.int .i64 t276) := (blk_cell BK278.out 7).trans rfl
                      have hcz30_8 : wr.cell? ⟨gb278, 8, none⟩ = some (.int .i64 t277) := (blk_cell BK278.out 8).trans rfl
                      have hfz30_0 := blk_frozen BK278.out 0
                      have hfz30_1 := blk_frozen BK278.out 1
                      have hfz30_2 := blk_frozen BK278.out 2
                      have hfz30_3 := blk_frozen BK278.out 3
                      have hfz30_4 := blk_frozen BK278.out 4
                      have hfz30_5 := blk_frozen BK278.out 5
                      have hfz30_6 := blk_frozen BK278.out 6
                      have hfz30_7 := blk_frozen BK278.out 7
                      have hfz30_8 := blk_frozen BK278.out 8
                      go_wp2_with (first | ((with_reducible refine gate_callee (f := 51) rfl ?_); refine goesL_ (some 38) rfl rfl Try.func51 (by kernel_rfl) rfl #[.agg #[.int .i64 t269, .int .i64 t270, .int .i64 t271, .int .i64 t272, .int .i64 t273, .int .i64 t274, .int .i64 t275, .int .i64 t276, .int .i64 t277], .int .i64 x6_3, .int .i64 x6_3] rfl (by (try simp only [List.map_toArray, List.map_cons, List.map_nil]); first | done | rfl | (simp only [List.length_drop, List.length_take]; rfl)) ?_; (with_reducible refine (impl_PlaceInside.calls k3 t269 t270 t271 t272 t273 t274 t275 t276 t277 x6_3 x6_3 false _ A26.out).mono ?_); rintro e w31 ⟨rfl, hb⟩; refine ⟨_, rfl, ?_⟩; have n0_ := Aside0.mk (blk_below (g := gb278) (o := .cells #[.int .i64 t269, .int .i64 t270, .int .i64 t271, .int .i64 t272, .int .i64 t273, .int .i64 t274, .int .i64 t275, .int .i64 t276, .int .i64 t277] 44 (0, 0)) (by (with_reducible repeat (first | refine blk_drewN ?_ _ | refine blk_drew ?_ | refine blk_alloc ?_ _)); exact BK278.out) hb); have n1_ := Aside0.mk (below_step (by repeat (first | (with_reducible first | exact HB.out | apply below_alloc | apply pw_below_drewN | apply below_drew1 | refine below_set ?_ GE278.out) | exact HB.out)) hb); clear BK278; clear HB; have BK278 := n0_; have HB := n1_; clear n0_ n1_; (try clear hb); (try clear hb2); (try clear hk); (try clear hi)))
                      go_roundg k3
                      case measure => have := HJ4.out; have := HJ22.out; have := HK3.out; omega
                      case rel => exact ⟨(wrap64 (x6_3 + 1)), (by first | rfl | (simp; done) | (simp [*]; done)), H', ⟨by have := HJ4.out; have := HJ22.out; have := HK3.out; omega⟩, ⟨by (with_reducible repeat (first | refine blk_drewN ?_ _ | refine blk_drew ?_ | refine blk_alloc ?_ _)); exact BK278.out⟩, ⟨by repeat (first | (with_reducible first | exact HB.out | apply below_alloc | apply pw_below_drewN | apply below_drew1 | refine below_set ?_ GE278.out) | exact HB.out)⟩⟩
                  · rw [if_neg c25] at H
                    have c25b0 : decide (x6_3 < x5_22) = false := decide_eq_false c25
                    clear c25
                    by_cases c32 : t279 < 0
                    · rw [if_pos c32] at H
                      have c32b0 : decide (t279 < 0) = true := decide_eq_true c32
                      clear c32
                      obtain rfl := Option.some.inj H
                      go_wp2
                      go_ret
                      exact ⟨by first | rfl | (simp [errW_none, errW_some] <;> rfl) | (simp [*, errW_none, errW_some] <;> rfl), by repeat (first | (with_reducible first | exact HB.out | apply below_alloc | apply pw_below_drewN | apply below_drew1 | refine below_set ?_ GE278.out) | exact HB.out)⟩
                    · rw [if_neg c32] at H
                      have c32b0 : decide (t279 < 0) = false := decide_eq_false c32
                      clear c32
                      replace H := Option.bind_eq_some_iff.mp H
                      obtain ⟨t284, A330, H⟩ := H
                      replace H : (some t284) = some r := H
                      have A33 := Aside0.mk A330
                      clear A330
                      obtain rfl := Option.some.inj H
                      have hcz34_0 : wr.cell? ⟨gb278, 0, none⟩ = some (.int .i64 t269) := (blk_cell BK278.out 0).trans rfl
                      have hcz34_1 : wr.cell? ⟨gb278, 1, none⟩ = some (.int .i64 t270) := (blk_cell BK278.out 1).trans rfl
                      have hcz34_2 : wr.cell? ⟨gb278, 2, none⟩ = some (.int .i64 t271) := (blk_cell BK278.out 2).trans rfl
                      have hcz34_3 : wr.cell? ⟨gb278, 3, none⟩ = some (.int .i64 t272) := (blk_cell BK278.out 3).trans rfl
                      have hcz34_4 : wr.cell? ⟨gb278, 4, none⟩ = some (.int .i64 t273) := (blk_cell BK278.out 4).trans rfl
                      have hcz34_5 : wr.cell? ⟨gb278, 5, none⟩ = some (.int .i64 t274) := (blk_cell BK278.out 5).trans rfl
                      have hcz34_6 : wr.cell? ⟨gb278, 6, none⟩ = some (.int .i64 t275) := (blk_cell BK278.out 6).trans rfl
                      have hcz34_7 : wr.cell? ⟨gb278, 7, none⟩ = some (.int .i64 t276) := (blk_cell BK278.out 7).trans rfl
                      have hcz34_8 : wr.cell? ⟨gb278, 8, none⟩ = some (.int .i64 t277) := (blk_cell BK278.out 8).trans rfl
                      have hfz34_0 := blk_frozen BK278.out 0
                      have hfz34_1 := blk_frozen BK278.out 1
                      have hfz34_2 := blk_frozen BK278.out 2
                      have hfz34_3 := blk_frozen BK278.out 3
                      have hfz34_4 := blk_frozen BK278.out 4
                      have hfz34_5 := blk_frozen BK278.out 5
                      have hfz34_6 := blk_frozen BK278.out 6
                      have hfz34_7 := blk_frozen BK278.out 7
                      have hfz34_8 := blk_frozen BK278.out 8
                      go_wp2_with (first | (go_at_call 51; (with_reducible refine (impl_PlaceInside.calls k3 t269 t270 t271 t272 t273 t274 t275 t276 t277 t279 t279 t284 _ A33.out).mono ?_); rintro e w35 ⟨rfl, hb⟩; have n0_ := Aside0.mk (blk_below (g := gb278) (o := .cells #[.int .i64 t269, .int .i64 t270, .int .i64 t271, .int .i64 t272, .int .i64 t273, .int .i64 t274, .int .i64 t275, .int .i64 t276, .int .i64 t277] 44 (0, 0)) (by (with_reducible repeat (first | refine blk_drewN ?_ _ | refine blk_drew ?_ | refine blk_alloc ?_ _)); exact BK278.out) hb); have n1_ := Aside0.mk (below_step (by repeat (first | (with_reducible first | exact HB.out | apply below_alloc | apply pw_below_drewN | apply below_drew1 | refine below_set ?_ GE278.out) | exact HB.out)) hb); clear BK278; clear HB; have BK278 := n0_; have HB := n1_; clear n0_ n1_; (try clear hb); (try clear hb2); (try clear hk); (try clear hi)))
                      go_ret
                      exact ⟨by first | rfl | (simp [errW_none, errW_some] <;> rfl) | (simp [*, errW_none, errW_some] <;> rfl), by repeat (first | (with_reducible first | exact HB.out | apply below_alloc | apply pw_below_drewN | apply below_drew1 | refine below_set ?_ GE278.out) | exact HB.out)⟩

/-- THE ONE PURE STATEMENT of laws_FnLeastInside: yours. -/
def laws_FnLeastInside.Pure : Prop := ∀ (l0 : List Int), l0.length ≤ maxLen → l0.length * 1 ≤ 140737488351232 → (∀ x ∈ l0, (Lit.int .u8 x).wf = true) → ∃ k, laws_FnLeastInside.f k l0 = some true
theorem laws_FnLeastInside.walk (P : laws_FnLeastInside.Pure) (a0 : Option Addr) (len0 cap0 : Nat) (z0 : List Int) (w : World) (w0 : (a0 = none ∧ len0 = 0 ∧ cap0 = 0 ∧ z0 = []) ∨ ∃ x, a0 = some x ∧ len0 ≤ cap0 ∧ cap0 ≤ maxLen ∧ z0.length = cap0 ∧ (∀ i, i < z0.length → w.cell? (x.add i) = some (.int .u8 (z0.getD i 0))) ∧ ∀ n ∈ z0, (Lit.int .u8 n).wf = true) (y0 : len0 * 1 ≤ 140737488351232) :
    Calls Try.prog 14 #[.slice a0 len0 cap0] w fun e w' => e = .returned (.bool true) ∧ Below w.heap.size w w' := by
  obtain ⟨l0, rfl, hr0, hm0, hw0, hc0⟩ := ReadsInt.ofRowC w0
  obtain ⟨k, h⟩ := P l0 hm0 y0 hw0
  refine (laws_FnLeastInside.calls k _ _ l0 true w (Kd.C_of_reads (d := (0 : Int)) (h1 := fun _ => rfl) hr0) hc0 h).mono ?_
  rintro e w' ⟨rfl, hd⟩
  exact ⟨rfl, hd⟩

end Go.Proofs.Ytfjpombdnbjomaa.PFnLeastInside
