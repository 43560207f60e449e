/- Contracts of the functions that FnPlaceInside reaches: own text, written by reown.py after the print's pattern. No condition. -/
import Derived.Test.YtnekecbhjlamoaaQFnPlaceInsidex0
import Derived.Test.YtnekecbhjlamoaaQFnPlaceInsidex2
import Derived.Test.YtnekecbhjlamoaaQFnPlaceInsidex3
import Derived.Test.YtnekecbhjlamoaaQFnPlaceInsidex4
namespace Go.Proofs.Ytnekecbhjlamoaa.PFnPlaceInside
open Go.RowKit Go.Proofs.YtnekecbhjlamoaaW.PrintWords Go.Proofs.YtnekecbhjlamoaaW.PrintLast Go.Proofs.YtnekecbhjlamoaaW.PrintMore
open Go.Proofs.Ytnekecbhjlamoaa.MxMn
attribute [local go_sem] max2_mx min2_mn max_two min_two max_three min_three max_four min_four   -- for this text's walks alone
set_option linter.unusedVariables false
set_option linter.unusedSimpArgs false

/-! ### laws_FnPlaceInside: function 3 -/
def laws_FnPlaceInside.j0 : Nat → Int → Int → Bool → Bool → Int → Int → Int → Int → Int → Int → Int → Int → Int → Option (Bool)
  | 0, _, _, _, _, _, _, _, _, _, _, _, _, _ => none
  | k + 1, x4, x5, x6, x46, x316000, x316001, x316002, x316003, x316004, x316005, x316006, x316007, x316008 => if x46 = true then ((spec_PlaceInside.f x316000 x316001 x316002 x316003 x316004 x316005 x316006 x316007 x316008 x4 x5).bind fun t319 => (some (x6 == t319))) else ((laws_room.f x4 x5).bind fun bt320 => ((impl_PlaceRect.f k x316000 x316001 x316002 x316003 x316004 x316005 x316006 x316007 x316008 x4 x5).bind fun bt324 => ((laws_within2.f bt320.1 bt320.2.1 bt320.2.2.1 bt320.2.2.2 bt324.1 bt324.2.1 bt324.2.2.1 bt324.2.2.2).bind fun t328 => (some (x6 == t328)))))
def laws_FnPlaceInside.f (k : Nat) (l0 : List Int) : Option (Bool) := if (l0.length : Int) > 1048576 then (some true) else ((spec_DrawPlaceInside.f k l0).bind fun bt304 => ((impl_PlaceInside.f k bt304.1 bt304.2.1 bt304.2.2.1 bt304.2.2.2.1 bt304.2.2.2.2.1 bt304.2.2.2.2.2.1 bt304.2.2.2.2.2.2.1 bt304.2.2.2.2.2.2.2.1 bt304.2.2.2.2.2.2.2.2.1 bt304.2.2.2.2.2.2.2.2.2.1 bt304.2.2.2.2.2.2.2.2.2.2).bind fun t316 => ((spec_PlaceInside.f bt304.1 bt304.2.1 bt304.2.2.1 bt304.2.2.2.1 bt304.2.2.2.2.1 bt304.2.2.2.2.2.1 bt304.2.2.2.2.2.2.1 bt304.2.2.2.2.2.2.2.1 bt304.2.2.2.2.2.2.2.2.1 bt304.2.2.2.2.2.2.2.2.2.1 bt304.2.2.2.2.2.2.2.2.2.2).bind fun t317 => (if (t316 != t317) = true then (laws_FnPlaceInside.j0 k bt304.2.2.2.2.2.2.2.2.2.1 bt304.2.2.2.2.2.2.2.2.2.2 t316 true bt304.1 bt304.2.1 bt304.2.2.1 bt304.2.2.2.1 bt304.2.2.2.2.1 bt304.2.2.2.2.2.1 bt304.2.2.2.2.2.2.1 bt304.2.2.2.2.2.2.2.1 bt304.2.2.2.2.2.2.2.2.1) else ((impl_ValidPlace.f k bt304.1 bt304.2.1 bt304.2.2.1 bt304.2.2.2.1 bt304.2.2.2.2.1 bt304.2.2.2.2.2.1 bt304.2.2.2.2.2.2.1 bt304.2.2.2.2.2.2.2.1 bt304.2.2.2.2.2.2.2.2.1).bind fun t318 => (if t318 = true then (if bt304.2.2.2.2.2.2.2.2.2.1 < 0 then (laws_FnPlaceInside.j0 k bt304.2.2.2.2.2.2.2.2.2.1 bt304.2.2.2.2.2.2.2.2.2.2 t316 true bt304.1 bt304.2.1 bt304.2.2.1 bt304.2.2.2.1 bt304.2.2.2.2.1 bt304.2.2.2.2.2.1 bt304.2.2.2.2.2.2.1 bt304.2.2.2.2.2.2.2.1 bt304.2.2.2.2.2.2.2.2.1) else (if bt304.2.2.2.2.2.2.2.2.2.1 > 400 then (laws_FnPlaceInside.j0 k bt304.2.2.2.2.2.2.2.2.2.1 bt304.2.2.2.2.2.2.2.2.2.2 t316 true bt304.1 bt304.2.1 bt304.2.2.1 bt304.2.2.2.1 bt304.2.2.2.2.1 bt304.2.2.2.2.2.1 bt304.2.2.2.2.2.2.1 bt304.2.2.2.2.2.2.2.1 bt304.2.2.2.2.2.2.2.2.1) else (if bt304.2.2.2.2.2.2.2.2.2.2 < 0 then (laws_FnPlaceInside.j0 k bt304.2.2.2.2.2.2.2.2.2.1 bt304.2.2.2.2.2.2.2.2.2.2 t316 true bt304.1 bt304.2.1 bt304.2.2.1 bt304.2.2.2.1 bt304.2.2.2.2.1 bt304.2.2.2.2.2.1 bt304.2.2.2.2.2.2.1 bt304.2.2.2.2.2.2.2.1 bt304.2.2.2.2.2.2.2.2.1) else (laws_FnPlaceInside.j0 k bt304.2.2.2.2.2.2.2.2.2.1 bt304.2.2.2.2.2.2.2.2.2.2 t316 (decide (bt304.2.2.2.2.2.2.2.2.2.2 > 400)) bt304.1 bt304.2.1 bt304.2.2.1 bt304.2.2.2.1 bt304.2.2.2.2.1 bt304.2.2.2.2.2.1 bt304.2.2.2.2.2.2.1 bt304.2.2.2.2.2.2.2.1 bt304.2.2.2.2.2.2.2.2.1)))) else (laws_FnPlaceInside.j0 k bt304.2.2.2.2.2.2.2.2.2.1 bt304.2.2.2.2.2.2.2.2.2.2 t316 true bt304.1 bt304.2.1 bt304.2.2.1 bt304.2.2.2.1 bt304.2.2.2.2.1 bt304.2.2.2.2.2.1 bt304.2.2.2.2.2.2.1 bt304.2.2.2.2.2.2.2.1 bt304.2.2.2.2.2.2.2.2.1)))))))
theorem laws_FnPlaceInside.mono_l : ∀ k, (∀ y0 y1 y2 y3 y4 y5 y6 y7 y8 y9 y10 y11 y12, LeO (laws_FnPlaceInside.j0 k y0 y1 y2 y3 y4 y5 y6 y7 y8 y9 y10 y11 y12) (laws_FnPlaceInside.j0 (k + 1) y0 y1 y2 y3 y4 y5 y6 y7 y8 y9 y10 y11 y12))
  | 0 => fun _ _ _ _ _ _ _ _ _ _ _ _ _ r h => by simp [laws_FnPlaceInside.j0] at h
  | k + 1 => by
    have ih0 := laws_FnPlaceInside.mono_l k
    · intro y0 y1 y2 y3 y4 y5 y6 y7 y8 y9 y10 y11 y12
      unfold laws_FnPlaceInside.j0
      repeat' first
      | (with_reducible exact ih0 _ _ _ _ _ _ _ _ _ _ _ _ _)
      | (with_reducible exact impl_PlaceInside.mono _ _ _ _ _ _ _ _ _ _ _ _)
      | (with_reducible exact impl_PlaceRect.mono _ _ _ _ _ _ _ _ _ _ _ _)
      | (with_reducible exact impl_ValidPlace.mono _ _ _ _ _ _ _ _ _ _)
      | (with_reducible exact spec_DrawPlaceInside.mono _ _)
      | (with_reducible exact LeO.refl _)
      | (with_reducible exact LeO.none _)
      | (with_reducible refine LeO.ite ?_ ?_)
      | (with_reducible refine LeO.bind ?_ (fun _ => ?_))
      | exact ih0 _ _ _ _ _ _ _ _ _ _ _ _ _
      | exact impl_PlaceInside.mono _ _ _ _ _ _ _ _ _ _ _ _
      | exact impl_PlaceRect.mono _ _ _ _ _ _ _ _ _ _ _ _
      | exact impl_ValidPlace.mono _ _ _ _ _ _ _ _ _ _
      | exact spec_DrawPlaceInside.mono _ _
      | exact LeO.none _
      | refine LeO.ite ?_ ?_
      | refine LeO.bind ?_ (fun _ => ?_)
theorem laws_FnPlaceInside.mono : ∀ a0 k, LeO (laws_FnPlaceInside.f k a0) (laws_FnPlaceInside.f (k + 1) a0) := by
  intro a0 k
  have ih0 := laws_FnPlaceInside.mono_l k
  unfold laws_FnPlaceInside.f
  repeat' first
      | (with_reducible exact ih0 _ _ _ _ _ _ _ _ _ _ _ _ _)
      | (with_reducible exact impl_PlaceInside.mono _ _ _ _ _ _ _ _ _ _ _ _)
      | (with_reducible exact impl_PlaceRect.mono _ _ _ _ _ _ _ _ _ _ _ _)
      | (with_reducible exact impl_ValidPlace.mono _ _ _ _ _ _ _ _ _ _)
      | (with_reducible exact spec_DrawPlaceInside.mono _ _)
      | (with_reducible exact LeO.refl _)
      | (with_reducible exact LeO.none _)
      | (with_reducible refine LeO.ite ?_ ?_)
      | (with_reducible refine LeO.bind ?_ (fun _ => ?_))
      | exact ih0 _ _ _ _ _ _ _ _ _ _ _ _ _
      | exact impl_PlaceInside.mono _ _ _ _ _ _ _ _ _ _ _ _
      | exact impl_PlaceRect.mono _ _ _ _ _ _ _ _ _ _ _ _
      | exact impl_ValidPlace.mono _ _ _ _ _ _ _ _ _ _
      | exact spec_DrawPlaceInside.mono _ _
      | exact LeO.none _
      | refine LeO.ite ?_ ?_
      | refine LeO.bind ?_ (fun _ => ?_)
def laws_FnPlaceInside.T7 : Bool × List (List Nat × List Nat) := (true, [([], []), ([], []), ([], []), ([1, 2], [1, 2]), ([], []), ([], []), ([], []), ([4, 5, 6, 3], [4, 5, 6]), ([3, 7, 7], [3, 7]), ([0, 8], [0, 8]), ([9, 8, 0, 1, 2, 3, 4, 5, 6, 7, 8, 9], [9])])
def laws_FnPlaceInside.B7 : List Nat := [0, 0, 0, 6, 0, 0, 0, 126, 254, 511, 1023]
theorem laws_FnPlaceInside.tab7 : rtab .any (opsOf Try.f3 7) = laws_FnPlaceInside.T7 := by kernel_rfl
theorem laws_FnPlaceInside.bits7 : waitsOk laws_FnPlaceInside.T7.2 laws_FnPlaceInside.B7 = true := by kernel_rfl
set_option maxHeartbeats 8000000 in
set_option maxRecDepth 100000 in
theorem laws_FnPlaceInside.calls (k : Nat) (A0 : Option Addr) (c0 : Nat) (l0 : List Int) (r : Bool) (w : World) (hr0 : Kd.C (Kd.int .u8) w A0 l0.length l0) (hc0 : l0.length ≤ c0) (h : laws_FnPlaceInside.f k l0 = some r) :
    Calls Try.prog 3 #[.slice A0 l0.length c0] w fun e w' => e = .returned (.bool r) ∧ Below w.heap.size w w' := by
  have hu24 := Try.underlying24
  have HR0 := Aside0.mk hr0
  have HC0 := Aside0.mk hc0
  clear hr0 hc0
  have HB := Aside0.mk (Below.refl w.heap.size w)
  have H : (if (l0.length : Int) > 1048576 then (some true) else ((spec_DrawPlaceInside.f k l0).bind fun bt304 => ((impl_PlaceInside.f k bt304.1 bt304.2.1 bt304.2.2.1 bt304.2.2.2.1 bt304.2.2.2.2.1 bt304.2.2.2.2.2.1 bt304.2.2.2.2.2.2.1 bt304.2.2.2.2.2.2.2.1 bt304.2.2.2.2.2.2.2.2.1 bt304.2.2.2.2.2.2.2.2.2.1 bt304.2.2.2.2.2.2.2.2.2.2).bind fun t316 => ((spec_PlaceInside.f bt304.1 bt304.2.1 bt304.2.2.1 bt304.2.2.2.1 bt304.2.2.2.2.1 bt304.2.2.2.2.2.1 bt304.2.2.2.2.2.2.1 bt304.2.2.2.2.2.2.2.1 bt304.2.2.2.2.2.2.2.2.1 bt304.2.2.2.2.2.2.2.2.2.1 bt304.2.2.2.2.2.2.2.2.2.2).bind fun t317 => (if (t316 != t317) = true then (laws_FnPlaceInside.j0 k bt304.2.2.2.2.2.2.2.2.2.1 bt304.2.2.2.2.2.2.2.2.2.2 t316 true bt304.1 bt304.2.1 bt304.2.2.1 bt304.2.2.2.1 bt304.2.2.2.2.1 bt304.2.2.2.2.2.1 bt304.2.2.2.2.2.2.1 bt304.2.2.2.2.2.2.2.1 bt304.2.2.2.2.2.2.2.2.1) else ((impl_ValidPlace.f k bt304.1 bt304.2.1 bt304.2.2.1 bt304.2.2.2.1 bt304.2.2.2.2.1 bt304.2.2.2.2.2.1 bt304.2.2.2.2.2.2.1 bt304.2.2.2.2.2.2.2.1 bt304.2.2.2.2.2.2.2.2.1).bind fun t318 => (if t318 = true then (if bt304.2.2.2.2.2.2.2.2.2.1 < 0 then (laws_FnPlaceInside.j0 k bt304.2.2.2.2.2.2.2.2.2.1 bt304.2.2.2.2.2.2.2.2.2.2 t316 true bt304.1 bt304.2.1 bt304.2.2.1 bt304.2.2.2.1 bt304.2.2.2.2.1 bt304.2.2.2.2.2.1 bt304.2.2.2.2.2.2.1 bt304.2.2.2.2.2.2.2.1 bt304.2.2.2.2.2.2.2.2.1) else (if bt304.2.2.2.2.2.2.2.2.2.1 > 400 then (laws_FnPlaceInside.j0 k bt304.2.2.2.2.2.2.2.2.2.1 bt304.2.2.2.2.2.2.2.2.2.2 t316 true bt304.1 bt304.2.1 bt304.2.2.1 bt304.2.2.2.1 bt304.2.2.2.2.1 bt304.2.2.2.2.2.1 bt304.2.2.2.2.2.2.1 bt304.2.2.2.2.2.2.2.1 bt304.2.2.2.2.2.2.2.2.1) else (if bt304.2.2.2.2.2.2.2.2.2.2 < 0 then (laws_FnPlaceInside.j0 k bt304.2.2.2.2.2.2.2.2.2.1 bt304.2.2.2.2.2.2.2.2.2.2 t316 true bt304.1 bt304.2.1 bt304.2.2.1 bt304.2.2.2.1 bt304.2.2.2.2.1 bt304.2.2.2.2.2.1 bt304.2.2.2.2.2.2.1 bt304.2.2.2.2.2.2.2.1 bt304.2.2.2.2.2.2.2.2.1) else (laws_FnPlaceInside.j0 k bt304.2.2.2.2.2.2.2.2.2.1 bt304.2.2.2.2.2.2.2.2.2.2 t316 (decide (bt304.2.2.2.2.2.2.2.2.2.2 > 400)) bt304.1 bt304.2.1 bt304.2.2.1 bt304.2.2.2.1 bt304.2.2.2.2.1 bt304.2.2.2.2.2.1 bt304.2.2.2.2.2.2.1 bt304.2.2.2.2.2.2.2.1 bt304.2.2.2.2.2.2.2.2.1)))) else (laws_FnPlaceInside.j0 k bt304.2.2.2.2.2.2.2.2.2.1 bt304.2.2.2.2.2.2.2.2.2.2 t316 true bt304.1 bt304.2.1 bt304.2.2.1 bt304.2.2.2.1 bt304.2.2.2.2.1 bt304.2.2.2.2.2.1 bt304.2.2.2.2.2.2.1 bt304.2.2.2.2.2.2.2.1 bt304.2.2.2.2.2.2.2.2.1)))))))) = some r := h
  clear h
  by_cases c2 : (l0.length : Int) > 1048576
  · rw [if_pos c2] at H
    have c2b0 : decide (1048576 < (l0.length : Int)) = true := decide_eq_true c2
    have c2b1 : decide (1048576 < l0.length) = true := decide_eq_true (by omega)
    clear c2
    obtain rfl := Option.some.inj H
    go_enter Try.func3, Try.ntmps3
    go_wp2
    go_ret
    exact ⟨by first | rfl | (simp [errW_none, errW_some] <;> rfl) | (simp [*, errW_none, errW_some] <;> rfl), by repeat (first | (with_reducible first | exact HB.out | apply below_alloc | apply pw_below_drewN | apply below_drew1) | exact HB.out)⟩
  · rw [if_neg c2] at H
    have c2b0 : decide (1048576 < (l0.length : Int)) = false := decide_eq_false c2
    have c2b1 : decide (1048576 < l0.length) = false := decide_eq_false (by omega)
    clear c2
    replace H := Option.bind_eq_some_iff.mp H
    obtain ⟨⟨t304, t305, t306, t307, t308, t309, t310, t311, t312, t313, t314⟩, A30, H⟩ := H
    replace H : ((impl_PlaceInside.f k t304 t305 t306 t307 t308 t309 t310 t311 t312 t313 t314).bind fun t316 => ((spec_PlaceInside.f t304 t305 t306 t307 t308 t309 t310 t311 t312 t313 t314).bind fun t317 => (if (t316 != t317) = true then (laws_FnPlaceInside.j0 k t313 t314 t316 true t304 t305 t306 t307 t308 t309 t310 t311 t312) else ((impl_ValidPlace.f k t304 t305 t306 t307 t308 t309 t310 t311 t312).bind fun t318 => (if t318 = true then (if t313 < 0 then (laws_FnPlaceInside.j0 k t313 t314 t316 true t304 t305 t306 t307 t308 t309 t310 t311 t312) else (if t313 > 400 then (laws_FnPlaceInside.j0 k t313 t314 t316 true t304 t305 t306 t307 t308 t309 t310 t311 t312) else (if t314 < 0 then (laws_FnPlaceInside.j0 k t313 t314 t316 true t304 t305 t306 t307 t308 t309 t310 t311 t312) else (laws_FnPlaceInside.j0 k t313 t314 t316 (decide (t314 > 400)) t304 t305 t306 t307 t308 t309 t310 t311 t312)))) else (laws_FnPlaceInside.j0 k t313 t314 t316 true t304 t305 t306 t307 t308 t309 t310 t311 t312)))))) = some r := H
    have A3 := Aside0.mk A30
    clear A30
    replace H := Option.bind_eq_some_iff.mp H
    obtain ⟨t316, A40, H⟩ := H
    replace H : ((spec_PlaceInside.f t304 t305 t306 t307 t308 t309 t310 t311 t312 t313 t314).bind fun t317 => (if (t316 != t317) = true then (laws_FnPlaceInside.j0 k t313 t314 t316 true t304 t305 t306 t307 t308 t309 t310 t311 t312) else ((impl_ValidPlace.f k t304 t305 t306 t307 t308 t309 t310 t311 t312).bind fun t318 => (if t318 = true then (if t313 < 0 then (laws_FnPlaceInside.j0 k t313 t314 t316 true t304 t305 t306 t307 t308 t309 t310 t311 t312) else (if t313 > 400 then (laws_FnPlaceInside.j0 k t313 t314 t316 true t304 t305 t306 t307 t308 t309 t310 t311 t312) else (if t314 < 0 then (laws_FnPlaceInside.j0 k t313 t314 t316 true t304 t305 t306 t307 t308 t309 t310 t311 t312) else (laws_FnPlaceInside.j0 k t313 t314 t316 (decide (t314 > 400)) t304 t305 t306 t307 t308 t309 t310 t311 t312)))) else (laws_FnPlaceInside.j0 k t313 t314 t316 true t304 t305 t306 t307 t308 t309 t310 t311 t312))))) = some r := H
    have A4 := Aside0.mk A40
    clear A40
    have HC5 := Aside0.mk H
    clear H
    go_enter Try.func3, Try.ntmps3
    go_upto_region 5 with (first | ((with_reducible refine gate_callee (f := 13) rfl ?_); refine goesL_ (some 12) rfl rfl Try.func13 (by kernel_rfl) rfl #[.slice A0 l0.length c0] rfl (by (try simp only [List.map_toArray, List.map_cons, List.map_nil]); first | done | rfl | (simp only [List.length_drop, List.length_take]; rfl)) ?_; (with_reducible refine (spec_DrawPlaceInside.calls k _ _ l0 t304 t305 t306 t307 t308 t309 t310 t311 t312 t313 t314 _ ?side1 ?side2 A3.out).mono ?_); (case side1 => repeat (first | exact HR0.out | (with_reducible refine Kd.C_alloc ?_ _) | (with_reducible refine Kd.C_drewN ?_ _) | (with_reducible refine Kd.C_drew ?_))); (case side2 => exact HC0.out); rintro e w6 ⟨rfl, hb⟩; refine ⟨_, rfl, ?_⟩; have n0_ := Aside0.mk (below_step (by repeat (first | (with_reducible first | exact HB.out | apply below_alloc | apply pw_below_drewN | apply below_drew1) | exact HB.out)) hb); clear HB; have HB := n0_; clear n0_; (try clear hb); (try clear hb2); (try clear hk); (try clear hi)) | ((with_reducible refine gate_dst (N := 3) rfl ?_); refine box_event ?hg (N := 3) ?hd (cs := #[.int .i64 0, .int .i64 0, .int .i64 0, .int .i64 0, .int .i64 0, .int .i64 0, .int .i64 0, .int .i64 0, .int .i64 0]) (t := 24) ?hr ?_; (case hd => rfl); (case hg => rfl); (case hr => first | (go_simp; done) | (go_simp; rfl)); intro gb315 hg w7 hbox hb; have n0_ := Aside0.mk (below_step (by repeat (first | (with_reducible first | exact HB.out | apply below_alloc | apply pw_below_drewN | apply below_drew1) | exact HB.out)) hb); have n1_ := Aside0.mk (hbox); have n2_ := Aside0.mk ((by rw [hg]; exact (below_size (by repeat (first | (with_reducible first | exact HB.out | apply below_alloc | apply pw_below_drewN | apply below_drew1) | exact HB.out))) : w.heap.size ≤ gb315)); have n3_ := Aside0.mk ((by rw [hg]; exact (below_size (by repeat (first | (with_reducible first | exact HB.out | apply below_alloc | apply pw_below_drewN | apply below_drew1) | exact HB.out))) : w.heap.size ≤ gb315)); clear HB; have HB := n0_; have BK315 := n1_; have GW315 := n2_; have GE315 := n3_; clear n0_ n1_ n2_ n3_; clear hb hbox hg; have hcz8_0 : w7.cell? ⟨gb315, 0, none⟩ = some (.int .i64 0) := (blk_cell BK315.out 0).trans rfl; have hcz8_1 : w7.cell? ⟨gb315, 1, none⟩ = some (.int .i64 0) := (blk_cell BK315.out 1).trans rfl; have hcz8_2 : w7.cell? ⟨gb315, 2, none⟩ = some (.int .i64 0) := (blk_cell BK315.out 2).trans rfl; have hcz8_3 : w7.cell? ⟨gb315, 3, none⟩ = some (.int .i64 0) := (blk_cell BK315.out 3).trans rfl; have hcz8_4 : w7.cell? ⟨gb315, 4, none⟩ = some (.int .i64 0) := (blk_cell BK315.out 4).trans rfl; have hcz8_5 : w7.cell? ⟨gb315, 5, none⟩ = some (.int .i64 0) := (blk_cell BK315.out 5).trans rfl; have hcz8_6 : w7.cell? ⟨gb315, 6, none⟩ = some (.int .i64 0) := (blk_cell BK315.out 6).trans rfl; have hcz8_7 : w7.cell? ⟨gb315, 7, none⟩ = some (.int .i64 0) := (blk_cell BK315.out 7).trans rfl; have hcz8_8 : w7.cell? ⟨gb315, 8, none⟩ = some (.int .i64 0) := (blk_cell BK315.out 8).trans rfl; have hfz8_0 := blk_frozen BK315.out 0; have hfz8_1 := blk_frozen BK315.out 1; have hfz8_2 := blk_frozen BK315.out 2; have hfz8_3 := blk_frozen BK315.out 3; have hfz8_4 := blk_frozen BK315.out 4; have hfz8_5 := blk_frozen BK315.out 5; have hfz8_6 := blk_frozen BK315.out 6; have hfz8_7 := blk_frozen BK315.out 7; have hfz8_8 := blk_frozen BK315.out 8) | ((with_reducible refine gate_callee (f := 14) rfl ?_); refine goesL_ (some 19) rfl rfl Try.func14 (by kernel_rfl) rfl #[.agg #[.int .i64 t304, .int .i64 t305, .int .i64 t306, .int .i64 t307, .int .i64 t308, .int .i64 t309, .int .i64 t310, .int .i64 t311, .int .i64 t312], .int .i64 t313, .int .i64 t314] rfl (by (try simp only [List.map_toArray, List.map_cons, List.map_nil]); first | done | rfl | (simp only [List.length_drop, List.length_take]; rfl)) ?_; (with_reducible refine (impl_PlaceInside.calls k t304 t305 t306 t307 t308 t309 t310 t311 t312 t313 t314 t316 _ A4.out).mono ?_); rintro e w9 ⟨rfl, hb⟩; refine ⟨_, rfl, ?_⟩; have n0_ := Aside0.mk (blk_below (g := gb315) (o := .cells #[.int .i64 t304, .int .i64 t305, .int .i64 t306, .int .i64 t307, .int .i64 t308, .int .i64 t309, .int .i64 t310, .int .i64 t311, .int .i64 t312] 24 (0, 0)) (by (with_reducible repeat (first | refine blk_drewN ?_ _ | refine blk_drew ?_ | refine blk_alloc ?_ _)); refine blk_put (cs := #[.int .i64 t304, .int .i64 t305, .int .i64 t306, .int .i64 t307, .int .i64 t308, .int .i64 t309, .int .i64 t310, .int .i64 t311, .int .i64 0]) ?_ 8 _ rfl; (with_reducible repeat (first | refine blk_drewN ?_ _ | refine blk_drew ?_ | refine blk_alloc ?_ _)); refine blk_put (cs := #[.int .i64 t304, .int .i64 t305, .int .i64 t306, .int .i64 t307, .int .i64 t308, .int .i64 t309, .int .i64 t310, .int .i64 0, .int .i64 0]) ?_ 7 _ rfl; (with_reducible repeat (first | refine blk_drewN ?_ _ | refine blk_drew ?_ | refine blk_alloc ?_ _)); refine blk_put (cs := #[.int .i64 t304, .int .i64 t305, .int .i64 t306, .int .i64 t307, .int .i64 t308, .int .i64 t309, .int .i64 0, .int .i64 0, .int .i64 0]) ?_ 6 _ rfl; (with_reducible repeat (first | refine blk_drewN ?_ _ | refine blk_drew ?_ | refine blk_alloc ?_ _)); refine blk_put (cs := #[.int .i64 t304, .int .i64 t305, .int .i64 t306, .int .i64 t307, .int .i64 t308, .int .i64 0, .int .i64 0, .int .i64 0, .int .i64 0]) ?_ 5 _ rfl; (with_reducible repeat (first | refine blk_drewN ?_ _ | refine blk_drew ?_ | refine blk_alloc ?_ _)); refine blk_put (cs := #[.int .i64 t304, .int .i64 t305, .int .i64 t306, .int .i64 t307, .int .i64 0, .int .i64 0, .int .i64 0, .int .i64 0, .int .i64 0]) ?_ 4 _ rfl; (with_reducible repeat (first | refine blk_drewN ?_ _ | refine blk_drew ?_ | refine blk_alloc ?_ _)); refine blk_put (cs := #[.int .i64 t304, .int .i64 t305, .int .i64 t306, .int .i64 0, .int .i64 0, .int .i64 0, .int .i64 0, .int .i64 0, .int .i64 0]) ?_ 3 _ rfl; (with_reducible repeat (first | refine blk_drewN ?_ _ | refine blk_drew ?_ | refine blk_alloc ?_ _)); refine blk_put (cs := #[.int .i64 t304, .int .i64 t305, .int .i64 0, .int .i64 0, .int .i64 0, .int .i64 0, .int .i64 0, .int .i64 0, .int .i64 0]) ?_ 2 _ rfl; (with_reducible repeat (first | refine blk_drewN ?_ _ | refine blk_drew ?_ | refine blk_alloc ?_ _)); refine blk_put (cs := #[.int .i64 t304, .int .i64 0, .int .i64 0, .int .i64 0, .int .i64 0, .int .i64 0, .int .i64 0, .int .i64 0, .int .i64 0]) ?_ 1 _ rfl; (with_reducible repeat (first | refine blk_drewN ?_ _ | refine blk_drew ?_ | refine blk_alloc ?_ _)); refine blk_put (cs := #[.int .i64 0, .int .i64 0, .int .i64 0, .int .i64 0, .int .i64 0, .int .i64 0, .int .i64 0, .int .i64 0, .int .i64 0]) ?_ 0 _ rfl; (with_reducible repeat (first | refine blk_drewN ?_ _ | refine blk_drew ?_ | refine blk_alloc ?_ _)); exact BK315.out) hb); have n1_ := Aside0.mk (below_step (by repeat (first | (with_reducible first | exact HB.out | apply below_alloc | apply pw_below_drewN | apply below_drew1 | refine below_set ?_ GE315.out) | exact HB.out)) hb); clear BK315; clear HB; have BK315 := n0_; have HB := n1_; clear n0_ n1_; (try clear hb); (try clear hb2); (try clear hk); (try clear hi)))
    (try simp only [Act.put, List.setIfInBounds_toArray, List.set_cons_zero, List.set_cons_succ])
    go_cut [46] (fun v46 wc => ∃ (kq : Nat) (x46_4 : Bool), v46 = .bool x46_4 ∧ Aside0 (laws_FnPlaceInside.j0 kq t313 t314 t316 x46_4 t304 t305 t306 t307 t308 t309 t310 t311 t312 = some r) ∧ Aside0 (kq ≤ k) ∧ Aside0 (wc.heap[gb315]? = some (.cells #[.int .i64 t304, .int .i64 t305, .int .i64 t306, .int .i64 t307, .int .i64 t308, .int .i64 t309, .int .i64 t310, .int .i64 t311, .int .i64 t312] 24 (0, 0))) ∧ Aside0 (Below w.heap.size w wc))
    case first =>
      have H := HC5.out
      clear HC5
      replace H := Option.bind_eq_some_iff.mp H
      obtain ⟨t317, A100, H⟩ := H
      replace H : (if (t316 != t317) = true then (laws_FnPlaceInside.j0 k t313 t314 t316 true t304 t305 t306 t307 t308 t309 t310 t311 t312) else ((impl_ValidPlace.f k t304 t305 t306 t307 t308 t309 t310 t311 t312).bind fun t318 => (if t318 = true then (if t313 < 0 then (laws_FnPlaceInside.j0 k t313 t314 t316 true t304 t305 t306 t307 t308 t309 t310 t311 t312) else (if t313 > 400 then (laws_FnPlaceInside.j0 k t313 t314 t316 true t304 t305 t306 t307 t308 t309 t310 t311 t312) else (if t314 < 0 then (laws_FnPlaceInside.j0 k t313 t314 t316 true t304 t305 t306 t307 t308 t309 t310 t311 t312) else (laws_FnPlaceInside.j0 k t313 t314 t316 (decide (t314 > 400)) t304 t305 t306 t307 t308 t309 t310 t311 t312)))) else (laws_FnPlaceInside.j0 k t313 t314 t316 true t304 t305 t306 t307 t308 t309 t310 t311 t312)))) = some r := H
      have A10 := Aside0.mk A100
      clear A100
      by_cases c11 : (t316 != t317) = true
      · rw [if_pos c11] at H
        have c11b0 : (t316 != t317) = true := c11
        (try (have c11b1 : decide (t316 = t317) = false := by simpa using c11))
        (try (have c11b2 : (t316 == t317) = false := by simpa using c11))
        (try (have c11b3 : ¬ (t316 = t317) := by simpa using c11))
        clear c11
        (first | rw [c11b0] | (simp only [i64_w, i32_w]; rw [c11b0]) | skip)
        have H' := Aside0.mk H
        clear H
        have hcz12_0 : w9.cell? ⟨gb315, 0, none⟩ = some (.int .i64 t304) := (blk_cell BK315.out 0).trans rfl
        have hcz12_1 : w9.cell? ⟨gb315, 1, none⟩ = some (.int .i64 t305) := (blk_cell BK315.out 1).trans rfl
        have hcz12_2 : w9.cell? ⟨gb315, 2, none⟩ = some (.int .i64 t306) := (blk_cell BK315.out 2).trans rfl
        have hcz12_3 : w9.cell? ⟨gb315, 3, none⟩ = some (.int .i64 t307) := (blk_cell BK315.out 3).trans rfl
        have hcz12_4 : w9.cell? ⟨gb315, 4, none⟩ = some (.int .i64 t308) := (blk_cell BK315.out 4).trans rfl
        have hcz12_5 : w9.cell? ⟨gb315, 5, none⟩ = some (.int .i64 t309) := (blk_cell BK315.out 5).trans rfl
        have hcz12_6 : w9.cell? ⟨gb315, 6, none⟩ = some (.int .i64 t310) := (blk_cell BK315.out 6).trans rfl
        have hcz12_7 : w9.cell? ⟨gb315, 7, none⟩ = some (.int .i64 t311) := (blk_cell BK315.out 7).trans rfl
        have hcz12_8 : w9.cell? ⟨gb315, 8, none⟩ = some (.int .i64 t312) := (blk_cell BK315.out 8).trans rfl
        have hfz12_0 := blk_frozen BK315.out 0
        have hfz12_1 := blk_frozen BK315.out 1
        have hfz12_2 := blk_frozen BK315.out 2
        have hfz12_3 := blk_frozen BK315.out 3
        have hfz12_4 := blk_frozen BK315.out 4
        have hfz12_5 := blk_frozen BK315.out 5
        have hfz12_6 := blk_frozen BK315.out 6
        have hfz12_7 := blk_frozen BK315.out 7
        have hfz12_8 := blk_frozen BK315.out 8
        go_wp2_with (first | ((with_reducible refine gate_callee (f := 15) rfl ?_); refine goesL_ (some 24) rfl rfl Try.func15 (by kernel_rfl) rfl #[.agg #[.int .i64 t304, .int .i64 t305, .int .i64 t306, .int .i64 t307, .int .i64 t308, .int .i64 t309, .int .i64 t310, .int .i64 t311, .int .i64 t312], .int .i64 t313, .int .i64 t314] rfl (by (try simp only [List.map_toArray, List.map_cons, List.map_nil]); first | done | rfl | (simp only [List.length_drop, List.length_take]; rfl)) ?_; (with_reducible refine (spec_PlaceInside.calls t304 t305 t306 t307 t308 t309 t310 t311 t312 t313 t314 t317 _ A10.out).mono ?_); rintro e w13 ⟨rfl, hb⟩; refine ⟨_, rfl, ?_⟩; have n0_ := Aside0.mk (blk_below (g := gb315) (o := .cells #[.int .i64 t304, .int .i64 t305, .int .i64 t306, .int .i64 t307, .int .i64 t308, .int .i64 t309, .int .i64 t310, .int .i64 t311, .int .i64 t312] 24 (0, 0)) (by (with_reducible repeat (first | refine blk_drewN ?_ _ | refine blk_drew ?_ | refine blk_alloc ?_ _)); exact BK315.out) hb); have n1_ := Aside0.mk (below_step (by repeat (first | (with_reducible first | exact HB.out | apply below_alloc | apply pw_below_drewN | apply below_drew1 | refine below_set ?_ GE315.out) | exact HB.out)) hb); clear BK315; clear HB; have BK315 := n0_; have HB := n1_; clear n0_ n1_; (try clear hb); (try clear hb2); (try clear hk); (try clear hi)))
        go_meet
        case rel => exact ⟨_, (true), (by first | rfl | (simp; done) | (simp [*]; done)), H', ⟨by first | omega | exact Nat.le_refl _⟩, ⟨by (with_reducible repeat (first | refine blk_drewN ?_ _ | refine blk_drew ?_ | refine blk_alloc ?_ _)); exact BK315.out⟩, ⟨by repeat (first | (with_reducible first | exact HB.out | apply below_alloc | apply pw_below_drewN | apply below_drew1 | refine below_set ?_ GE315.out) | exact HB.out)⟩⟩
      · rw [if_neg c11] at H
        have c11b0 : (t316 != t317) = false := by simpa using c11
        (try (have c11b1 : decide (t316 = t317) = true := by simpa using c11))
        (try (have c11b2 : (t316 == t317) = true := by simpa using c11))
        clear c11
        (first | rw [c11b0] | (simp only [i64_w, i32_w]; rw [c11b0]) | skip)
        replace H := Option.bind_eq_some_iff.mp H
        obtain ⟨t318, A140, H⟩ := H
        replace H : (if t318 = true then (if t313 < 0 then (laws_FnPlaceInside.j0 k t313 t314 t316 true t304 t305 t306 t307 t308 t309 t310 t311 t312) else (if t313 > 400 then (laws_FnPlaceInside.j0 k t313 t314 t316 true t304 t305 t306 t307 t308 t309 t310 t311 t312) else (if t314 < 0 then (laws_FnPlaceInside.j0 k t313 t314 t316 true t304 t305 t306 t307 t308 t309 t310 t311 t312) else (laws_FnPlaceInside.j0 k t313 t314 t316 (decide (t314 > 400)) t304 t305 t306 t307 t308 t309 t310 t311 t312)))) else (laws_FnPlaceInside.j0 k t313 t314 t316 true t304 t305 t306 t307 t308 t309 t310 t311 t312)) = some r := H
        have A14 := Aside0.mk A140
        clear A140
        by_cases c15 : t318 = true
        · subst c15
          have H1 : (if t313 < 0 then (laws_FnPlaceInside.j0 k t313 t314 t316 true t304 t305 t306 t307 t308 t309 t310 t311 t312) else (if t313 > 400 then (laws_FnPlaceInside.j0 k t313 t314 t316 true t304 t305 t306 t307 t308 t309 t310 t311 t312) else (if t314 < 0 then (laws_FnPlaceInside.j0 k t313 t314 t316 true t304 t305 t306 t307 t308 t309 t310 t311 t312) else (laws_FnPlaceInside.j0 k t313 t314 t316 (decide (t314 > 400)) t304 t305 t306 t307 t308 t309 t310 t311 t312)))) = some r := by rw [if_pos rfl] at H; exact H
          clear H
          have H := H1
          clear H1
          by_cases c16 : t313 < 0
          · rw [if_pos c16] at H
            have c16b0 : decide (t313 < 0) = true := decide_eq_true c16
            clear c16
            have H' := Aside0.mk H
            clear H
            have hcz17_0 : w9.cell? ⟨gb315, 0, none⟩ = some (.int .i64 t304) := (blk_cell BK315.out 0).trans rfl
            have hcz17_1 : w9.cell? ⟨gb315, 1, none⟩ = some (.int .i64 t305) := (blk_cell BK315.out 1).trans rfl
            have hcz17_2 : w9.cell? ⟨gb315, 2, none⟩ = some (.int .i64 t306) := (blk_cell BK315.out 2).trans rfl
            have hcz17_3 : w9.cell? ⟨gb315, 3, none⟩ = some (.int .i64 t307) := (blk_cell BK315.out 3).trans rfl
            have hcz17_4 : w9.cell? ⟨gb315, 4, none⟩ = some (.int .i64 t308) := (blk_cell BK315.out 4).trans rfl
            have hcz17_5 : w9.cell? ⟨gb315, 5, none⟩ = some (.int .i64 t309) := (blk_cell BK315.out 5).trans rfl
            have hcz17_6 : w9.cell? ⟨gb315, 6, none⟩ = some (.int .i64 t310) := (blk_cell BK315.out 6).trans rfl
            have hcz17_7 : w9.cell? ⟨gb315, 7, none⟩ = some (.int .i64 t311) := (blk_cell BK315.out 7).trans rfl
            have hcz17_8 : w9.cell? ⟨gb315, 8, none⟩ = some (.int .i64 t312) := (blk_cell BK315.out 8).trans rfl
            have hfz17_0 := blk_frozen BK315.out 0
            have hfz17_1 := blk_frozen BK315.out 1
            have hfz17_2 := blk_frozen BK315.out 2
            have hfz17_3 := blk_frozen BK315.out 3
            have hfz17_4 := blk_frozen BK315.out 4
            have hfz17_5 := blk_frozen BK315.out 5
            have hfz17_6 := blk_frozen BK315.out 6
            have hfz17_7 := blk_frozen BK315.out 7
            have hfz17_8 := blk_frozen BK315.out 8
            go_wp2_with (first | ((with_reducible refine gate_callee (f := 15) rfl ?_); refine goesL_ (some 24) rfl rfl Try.func15 (by kernel_rfl) rfl #[.agg #[.int .i64 t304, .int .i64 t305, .int .i64 t306, .int .i64 t307, .int .i64 t308, .int .i64 t309, .int .i64 t310, .int .i64 t311, .int .i64 t312], .int .i64 t313, .int .i64 t314] rfl (by (try simp only [List.map_toArray, List.map_cons, List.map_nil]); first | done | rfl | (simp only [List.length_drop, List.length_take]; rfl)) ?_; (with_reducible refine (spec_PlaceInside.calls t304 t305 t306 t307 t308 t309 t310 t311 t312 t313 t314 t317 _ A10.out).mono ?_); rintro e w18 ⟨rfl, hb⟩; refine ⟨_, rfl, ?_⟩; have n0_ := Aside0.mk (blk_below (g := gb315) (o := .cells #[.int .i64 t304, .int .i64 t305, .int .i64 t306, .int .i64 t307, .int .i64 t308, .int .i64 t309, .int .i64 t310, .int .i64 t311, .int .i64 t312] 24 (0, 0)) (by (with_reducible repeat (first | refine blk_drewN ?_ _ | refine blk_drew ?_ | refine blk_alloc ?_ _)); exact BK315.out) hb); have n1_ := Aside0.mk (below_step (by repeat (first | (with_reducible first | exact HB.out | apply below_alloc | apply pw_below_drewN | apply below_drew1 | refine below_set ?_ GE315.out) | exact HB.out)) hb); clear BK315; clear HB; have BK315 := n0_; have HB := n1_; clear n0_ n1_; (try clear hb); (try clear hb2); (try clear hk); (try clear hi); have hcz19_0 : w18.cell? ⟨gb315, 0, none⟩ = some (.int .i64 t304) := (blk_cell BK315.out 0).trans rfl; have hcz19_1 : w18.cell? ⟨gb315, 1, none⟩ = some (.int .i64 t305) := (blk_cell BK315.out 1).trans rfl; have hcz19_2 : w18.cell? ⟨gb315, 2, none⟩ = some (.int .i64 t306) := (blk_cell BK315.out 2).trans rfl; have hcz19_3 : w18.cell? ⟨gb315, 3, none⟩ = some (.int .i64 t307) := (blk_cell BK315.out 3).trans rfl; have hcz19_4 : w18.cell? ⟨gb315, 4, none⟩ = some (.int .i64 t308) := (blk_cell BK315.out 4).trans rfl; have hcz19_5 : w18.cell? ⟨gb315, 5, none⟩ = some (.int .i64 t309) := (blk_cell BK315.out 5).trans rfl; have hcz19_6 : w18.cell? ⟨gb315, 6, none⟩ = some (.int .i64 t310) := (blk_cell BK315.out 6).trans rfl; have hcz19_7 : w18.cell? ⟨gb315, 7, none⟩ = some (.int .i64 t311) := (blk_cell BK315.out 7).trans rfl; have hcz19_8 : w18.cell? ⟨gb315, 8, none⟩ = some (.int .i64 t312) := (blk_cell BK315.out 8).trans rfl; have hfz19_0 := blk_frozen BK315.out 0; have hfz19_1 := blk_frozen BK315.out 1; have hfz19_2 := blk_frozen BK315.out 2; have hfz19_3 := blk_frozen BK315.out 3; have hfz19_4 := blk_frozen BK315.out 4; have hfz19_5 := blk_frozen BK315.out 5; have hfz19_6 := blk_frozen BK315.out 6; have hfz19_7 := blk_frozen BK315.out 7; have hfz19_8 := blk_frozen BK315.out 8) | (go_at_call 16; (with_reducible refine (impl_ValidPlace.calls k t304 t305 t306 t307 t308 t309 t310 t311 t312 true _ A14.out).mono ?_); rintro e w20 ⟨rfl, hb⟩; have n0_ := Aside0.mk (blk_below (g := gb315) (o := .cells #[.int .i64 t304, .int .i64 t305, .int .i64 t306, .int .i64 t307, .int .i64 t308, .int .i64 t309, .int .i64 t310, .int .i64 t311, .int .i64 t312] 24 (0, 0)) (by (with_reducible repeat (first | refine blk_drewN ?_ _ | refine blk_drew ?_ | refine blk_alloc ?_ _)); exact BK315.out) hb); have n1_ := Aside0.mk (below_step (by repeat (first | (with_reducible first | exact HB.out | apply below_alloc | apply pw_below_drewN | apply below_drew1 | refine below_set ?_ GE315.out) | exact HB.out)) hb); clear BK315; clear HB; have BK315 := n0_; have HB := n1_; clear n0_ n1_; (try clear hb); (try clear hb2); (try clear hk); (try clear hi)))
            go_meet
            case rel => exact ⟨_, (true), (by first | rfl | (simp; done) | (simp [*]; done)), H', ⟨by first | omega | exact Nat.le_refl _⟩, ⟨by (with_reducible repeat (first | refine blk_drewN ?_ _ | refine blk_drew ?_ | refine blk_alloc ?_ _)); exact BK315.out⟩, ⟨by repeat (first | (with_reducible first | exact HB.out | apply below_alloc | apply pw_below_drewN | apply below_drew1 | refine below_set ?_ GE315.out) | exact HB.out)⟩⟩
          · rw [if_neg c16] at H
            have c16b0 : decide (t313 < 0) = false := decide_eq_false c16
            clear c16
            by_cases c21 : t313 > 400
            · rw [if_pos c21] at H
              have c21b0 : decide (400 < t313) = true := decide_eq_true c21
              clear c21
              have H' := Aside0.mk H
              clear H
              have hcz22_0 : w9.cell? ⟨gb315, 0, none⟩ = some (.int .i64 t304) := (blk_cell BK315.out 0).trans rfl
              have hcz22_1 : w9.cell? ⟨gb315, 1, none⟩ = some (.int .i64 t305) := (blk_cell BK315.out 1).trans rfl
              have hcz22_2 : w9.cell? ⟨gb315, 2, none⟩ = some (.int .i64 t306) := (blk_cell BK315.out 2).trans rfl
              have hcz22_3 : w9.cell? ⟨gb315, 3, none⟩ = some (.int .i64 t307) := (blk_cell BK315.out 3).trans rfl
              have hcz22_4 : w9.cell? ⟨gb315, 4, none⟩ = some (.int .i64 t308) := (blk_cell BK315.out 4).trans rfl
              have hcz22_5 : w9.cell? ⟨gb315, 5, none⟩ = some (.int .i64 t309) := (blk_cell BK315.out 5).trans rfl
              have hcz22_6 : w9.cell? ⟨gb315, 6, none⟩ = some (.int .i64 t310) := (blk_cell BK315.out 6).trans rfl
              have hcz22_7 : w9.cell? ⟨gb315, 7, none⟩ = some (.int .i64 t311) := (blk_cell BK315.out 7).trans rfl
              have hcz22_8 : w9.cell? ⟨gb315, 8, none⟩ = some (.int .i64 t312) := (blk_cell BK315.out 8).trans rfl
              have hfz22_0 := blk_frozen BK315.out 0
              have hfz22_1 := blk_frozen BK315.out 1
              have hfz22_2 := blk_frozen BK315.out 2
              have hfz22_3 := blk_frozen BK315.out 3
              have hfz22_4 := blk_frozen BK315.out 4
              have hfz22_5 := blk_frozen BK315.out 5
              have hfz22_6 := blk_frozen BK315.out 6
              have hfz22_7 := blk_frozen BK315.out 7
              have hfz22_8 := blk_frozen BK315.out 8
              go_wp2_with (first | ((with_reducible refine gate_callee (f := 15) rfl ?_); refine goesL_ (some 24) rfl rfl Try.func15 (by kernel_rfl) rfl #[.agg #[.int .i64 t304, .int .i64 t305, .int .i64 t306, .int .i64 t307, .int .i64 t308, .int .i64 t309, .int .i64 t310, .int .i64 t311, .int .i64 t312], .int .i64 t313, .int .i64 t314] rfl (by (try simp only [List.map_toArray, List.map_cons, List.map_nil]); first | done | rfl | (simp only [List.length_drop, List.length_take]; rfl)) ?_; (with_reducible refine (spec_PlaceInside.calls t304 t305 t306 t307 t308 t309 t310 t311 t312 t313 t314 t317 _ A10.out).mono ?_); rintro e w23 ⟨rfl, hb⟩; refine ⟨_, rfl, ?_⟩; have n0_ := Aside0.mk (blk_below (g := gb315) (o := .cells #[.int .i64 t304, .int .i64 t305, .int .i64 t306, .int .i64 t307, .int .i64 t308, .int .i64 t309, .int .i64 t310, .int .i64 t311, .int .i64 t312] 24 (0, 0)) (by (with_reducible repeat (first | refine blk_drewN ?_ _ | refine blk_drew ?_ | refine blk_alloc ?_ _)); exact BK315.out) hb); have n1_ := Aside0.mk (below_step (by repeat (first | (with_reducible first | exact HB.out | apply below_alloc | apply pw_below_drewN | apply below_drew1 | refine below_set ?_ GE315.out) | exact HB.out)) hb); clear BK315; clear HB; have BK315 := n0_; have HB := n1_; clear n0_ n1_; (try clear hb); (try clear hb2); (try clear hk); (try clear hi); have hcz24_0 : w23.cell? ⟨gb315, 0, none⟩ = some (.int .i64 t304) := (blk_cell BK315.out 0).trans rfl; have hcz24_1 : w23.cell? ⟨gb315, 1, none⟩ = some (.int .i64 t305) := (blk_cell BK315.out 1).trans rfl; have hcz24_2 : w23.cell? ⟨gb315, 2, none⟩ = some (.int .i64 t306) := (blk_cell BK315.out 2).trans rfl; have hcz24_3 : w23.cell? ⟨gb315, 3, none⟩ = some (.int .i64 t307) := (blk_cell BK315.out 3).trans rfl; have hcz24_4 : w23.cell? ⟨gb315, 4, none⟩ = some (.int .i64 t308) := (blk_cell BK315.out 4).trans rfl; have hcz24_5 : w23.cell? ⟨gb315, 5, none⟩ = some (.int .i64 t309) := (blk_cell BK315.out 5).trans rfl; have hcz24_6 : w23.cell? ⟨gb315, 6, none⟩ = some (.int .i64 t310) := (blk_cell BK315.out 6).trans rfl; have hcz24_7 : w23.cell? ⟨gb315, 7, none⟩ = some (.int .i64 t311) := (blk_cell BK315.out 7).trans rfl; have hcz24_8 : w23.cell? ⟨gb315, 8, none⟩ = some (.int .i64 t312) := (blk_cell BK315.out 8).trans rfl; have hfz24_0 := blk_frozen BK315.out 0; have hfz24_1 := blk_frozen BK315.out 1; have hfz24_2 := blk_frozen BK315.out 2; have hfz24_3 := blk_frozen BK315.out 3; have hfz24_4 := blk_frozen BK315.out 4; have hfz24_5 := blk_frozen BK315.out 5; have hfz24_6 := blk_frozen BK315.out 6; have hfz24_7 := blk_frozen BK315.out 7; have hfz24_8 := blk_frozen BK315.out 8) | (go_at_call 16; (with_reducible refine (impl_ValidPlace.calls k t304 t305 t306 t307 t308 t309 t310 t311 t312 true _ A14.out).mono ?_); rintro e w25 ⟨rfl, hb⟩; have n0_ := Aside0.mk (blk_below (g := gb315) (o := .cells #[.int .i64 t304, .int .i64 t305, .int .i64 t306, .int .i64 t307, .int .i64 t308, .int .i64 t309, .int .i64 t310, .int .i64 t311, .int .i64 t312] 24 (0, 0)) (by (with_reducible repeat (first | refine blk_drewN ?_ _ | refine blk_drew ?_ | refine blk_alloc ?_ _)); exact BK315.out) hb); have n1_ := Aside0.mk (below_step (by repeat (first | (with_reducible first | exact HB.out | apply below_alloc | apply pw_below_drewN | apply below_drew1 | refine below_set ?_ GE315.out) | exact HB.out)) hb); clear BK315; clear HB; have BK315 := n0_; have HB := n1_; clear n0_ n1_; (try clear hb); (try clear hb2); (try clear hk); (try clear hi)))
              go_meet
              case rel => exact ⟨_, (true), (by first | rfl | (simp; done) | (simp [*]; done)), H', ⟨by first | omega | exact Nat.le_refl _⟩, ⟨by (with_reducible repeat (first | refine blk_drewN ?_ _ | refine blk_drew ?_ | refine blk_alloc ?_ _)); exact BK315.out⟩, ⟨by repeat (first | (with_reducible first | exact HB.out | apply below_alloc | apply pw_below_drewN | apply below_drew1 | refine below_set ?_ GE315.out) | exact HB.out)⟩⟩
            · rw [if_neg c21] at H
              have c21b0 : decide (400 < t313) = false := decide_eq_false c21
              clear c21
              by_cases c26 : t314 < 0
              · rw [if_pos c26] at H
                have c26b0 : decide (t314 < 0) = true := decide_eq_true c26
                clear c26
                have H' := Aside0.mk H
                clear H
                have hcz27_0 : w9.cell? ⟨gb315, 0, none⟩ = some (.int .i64 t304) := (blk_cell BK315.out 0).trans rfl
                have hcz27_1 : w9.cell? ⟨gb315, 1, none⟩ = some (.int .i64 t305) := (blk_cell BK315.out 1).trans rfl
                have hcz27_2 : w9.cell? ⟨gb315, 2, none⟩ = some (.int .i64 t306) := (blk_cell BK315.out 2).trans rfl
                have hcz27_3 : w9.cell? ⟨gb315, 3, none⟩ = some (.int .i64 t307) := (blk_cell BK315.out 3).trans rfl
                have hcz27_4 : w9.cell? ⟨gb315, 4, none⟩ = some (.int .i64 t308) := (blk_cell BK315.out 4).trans rfl
                have hcz27_5 : w9.cell? ⟨gb315, 5, none⟩ = some (.int .i64 t309) := (blk_cell BK315.out 5).trans rfl
                have hcz27_6 : w9.cell? ⟨gb315, 6, none⟩ = some (.int .i64 t310) := (blk_cell BK315.out 6).trans rfl
                have hcz27_7 : w9.cell? ⟨gb315, 7, none⟩ = some (.int .i64 t311) := (blk_cell BK315.out 7).trans rfl
                have hcz27_8 : w9.cell? ⟨gb315, 8, none⟩ = some (.int .i64 t312) := (blk_cell BK315.out 8).trans rfl
                have hfz27_0 := blk_frozen BK315.out 0
                have hfz27_1 := blk_frozen BK315.out 1
                have hfz27_2 := blk_frozen BK315.out 2
                have hfz27_3 := blk_frozen BK315.out 3
                have hfz27_4 := blk_frozen BK315.out 4
                have hfz27_5 := blk_frozen BK315.out 5
                have hfz27_6 := blk_frozen BK315.out 6
                have hfz27_7 := blk_frozen BK315.out 7
                have hfz27_8 := blk_frozen BK315.out 8
                go_wp2_with (first | ((with_reducible refine gate_callee (f := 15) rfl ?_); refine goesL_ (some 24) rfl rfl Try.func15 (by kernel_rfl) rfl #[.agg #[.int .i64 t304, .int .i64 t305, .int .i64 t306, .int .i64 t307, .int .i64 t308, .int .i64 t309, .int .i64 t310, .int .i64 t311, .int .i64 t312], .int .i64 t313, .int .i64 t314] rfl (by (try simp only [List.map_toArray, List.map_cons, List.map_nil]); first | done | rfl | (simp only [List.length_drop, List.length_take]; rfl)) ?_; (with_reducible refine (spec_PlaceInside.calls t304 t305 t306 t307 t308 t309 t310 t311 t312 t313 t314 t317 _ A10.out).mono ?_); rintro e w28 ⟨rfl, hb⟩; refine ⟨_, rfl, ?_⟩; have n0_ := Aside0.mk (blk_below (g := gb315) (o := .cells #[.int .i64 t304, .int .i64 t305, .int .i64 t306, .int .i64 t307, .int .i64 t308, .int .i64 t309, .int .i64 t310, .int .i64 t311, .int .i64 t312] 24 (0, 0)) (by (with_reducible repeat (first | refine blk_drewN ?_ _ | refine blk_drew ?_ | refine blk_alloc ?_ _)); exact BK315.out) hb); have n1_ := Aside0.mk (below_step (by repeat (first | (with_reducible first | exact HB.out | apply below_alloc | apply pw_below_drewN | apply below_drew1 | refine below_set ?_ GE315.out) | exact HB.out)) hb); clear BK315; clear HB; have BK315 := n0_; have HB := n1_; clear n0_ n1_; (try clear hb); (try clear hb2); (try clear hk); (try clear hi); have hcz29_0 : w28.cell? ⟨gb315, 0, none⟩ = some (.int .i64 t304) := (blk_cell BK315.out 0).trans rfl; have hcz29_1 : w28.cell? ⟨gb315, 1, none⟩ = some (.int .i64 t305) := (blk_cell BK315.out 1).trans rfl; have hcz29_2 : w28.cell? ⟨gb315, 2, none⟩ = some (.int .i64 t306) := (blk_cell BK315.out 2).trans rfl; have hcz29_3 : w28.cell? ⟨gb315, 3, none⟩ = some (.int .i64 t307) := (blk_cell BK315.out 3).trans rfl; have hcz29_4 : w28.cell? ⟨gb315, 4, none⟩ = some (.int .i64 t308) := (blk_cell BK315.out 4).trans rfl; have hcz29_5 : w28.cell? ⟨gb315, 5, none⟩ = some (.int .i64 t309) := (blk_cell BK315.out 5).trans rfl; have hcz29_6 : w28.cell? ⟨gb315, 6, none⟩ = some (.int .i64 t310) := (blk_cell BK315.out 6).trans rfl; have hcz29_7 : w28.cell? ⟨gb315, 7, none⟩ = some (.int .i64 t311) := (blk_cell BK315.out 7).trans rfl; have hcz29_8 : w28.cell? ⟨gb315, 8, none⟩ = some (.int .i64 t312) := (blk_cell BK315.out 8).trans rfl; have hfz29_0 := blk_frozen BK315.out 0; have hfz29_1 := blk_frozen BK315.out 1; have hfz29_2 := blk_frozen BK315.out 2; have hfz29_3 := blk_frozen BK315.out 3; have hfz29_4 := blk_frozen BK315.out 4; have hfz29_5 := blk_frozen BK315.out 5; have hfz29_6 := blk_frozen BK315.out 6; have hfz29_7 := blk_frozen BK315.out 7; have hfz29_8 := blk_frozen BK315.out 8) | (go_at_call 16; (with_reducible refine (impl_ValidPlace.calls k t304 t305 t306 t307 t308 t309 t310 t311 t312 true _ A14.out).mono ?_); rintro e w30 ⟨rfl, hb⟩; have n0_ := Aside0.mk (blk_below (g := gb315) (o := .cells #[.int .i64 t304, .int .i64 t305, .int .i64 t306, .int .i64 t307, .int .i64 t308, .int .i64 t309, .int .i64 t310, .int .i64 t311, .int .i64 t312] 24 (0, 0)) (by (with_reducible repeat (first | refine blk_drewN ?_ _ | refine blk_drew ?_ | refine blk_alloc ?_ _)); exact BK315.out) hb); have n1_ := Aside0.mk (below_step (by repeat (first | (with_reducible first | exact HB.out | apply below_alloc | apply pw_below_drewN | apply below_drew1 | refine below_set ?_ GE315.out) | exact HB.out)) hb); clear BK315; clear HB; have BK315 := n0_; have HB := n1_; clear n0_ n1_; (try clear hb); (try clear hb2); (try clear hk); (try clear hi)))
                go_meet
                case rel => exact ⟨_, (true), (by first | rfl | (simp; done) | (simp [*]; done)), H', ⟨by first | omega | exact Nat.le_refl _⟩, ⟨by (with_reducible repeat (first | refine blk_drewN ?_ _ | refine blk_drew ?_ | refine blk_alloc ?_ _)); exact BK315.out⟩, ⟨by repeat (first | (with_reducible first | exact HB.out | apply below_alloc | apply pw_below_drewN | apply below_drew1 | refine below_set ?_ GE315.out) | exact HB.out)⟩⟩
              · rw [if_neg c26] at H
                have c26b0 : decide (t314 < 0) = false := decide_eq_false c26
                clear c26
                have H' := Aside0.mk H
                clear H
                have hcz31_0 : w9.cell? ⟨gb315, 0, none⟩ = some (.int .i64 t304) := (blk_cell BK315.out 0).trans rfl
                have hcz31_1 : w9.cell? ⟨gb315, 1, none⟩ = some (.int .i64 t305) := (blk_cell BK315.out 1).trans rfl
                have hcz31_2 : w9.cell? ⟨gb315, 2, none⟩ = some (.int .i64 t306) := (blk_cell BK315.out 2).trans rfl
                have hcz31_3 : w9.cell? ⟨gb315, 3, none⟩ = some (.int .i64 t307) := (blk_cell BK315.out 3).trans rfl
                have hcz31_4 : w9.cell? ⟨gb315, 4, none⟩ = some (.int .i64 t308) := (blk_cell BK315.out 4).trans rfl
                have hcz31_5 : w9.cell? ⟨gb315, 5, none⟩ = some (.int .i64 t309) := (blk_cell BK315.out 5).trans rfl
                have hcz31_6 : w9.cell? ⟨gb315, 6, none⟩ = some (.int .i64 t310) := (blk_cell BK315.out 6).trans rfl
                have hcz31_7 : w9.cell? ⟨gb315, 7, none⟩ = some (.int .i64 t311) := (blk_cell BK315.out 7).trans rfl
                have hcz31_8 : w9.cell? ⟨gb315, 8, none⟩ = some (.int .i64 t312) := (blk_cell BK315.out 8).trans rfl
                have hfz31_0 := blk_frozen BK315.out 0
                have hfz31_1 := blk_frozen BK315.out 1
                have hfz31_2 := blk_frozen BK315.out 2
                have hfz31_3 := blk_frozen BK315.out 3
                have hfz31_4 := blk_frozen BK315.out 4
                have hfz31_5 := blk_frozen BK315.out 5
                have hfz31_6 := blk_frozen BK315.out 6
                have hfz31_7 := blk_frozen BK315.out 7
                have hfz31_8 := blk_frozen BK315.out 8
                go_wp2_with (first | ((with_reducible refine gate_callee (f := 15) rfl ?_); refine goesL_ (some 24) rfl rfl Try.func15 (by kernel_rfl) rfl #[.agg #[.int .i64 t304, .int .i64 t305, .int .i64 t306, .int .i64 t307, .int .i64 t308, .int .i64 t309, .int .i64 t310, .int .i64 t311, .int .i64 t312], .int .i64 t313, .int .i64 t314] rfl (by (try simp only [List.map_toArray, List.map_cons, List.map_nil]); first | done | rfl | (simp only [List.length_drop, List.length_take]; rfl)) ?_; (with_reducible refine (spec_PlaceInside.calls t304 t305 t306 t307 t308 t309 t310 t311 t312 t313 t314 t317 _ A10.out).mono ?_); rintro e w32 ⟨rfl, hb⟩; refine ⟨_, rfl, ?_⟩; have n0_ := Aside0.mk (blk_below (g := gb315) (o := .cells #[.int .i64 t304, .int .i64 t305, .int .i64 t306, .int .i64 t307, .int .i64 t308, .int .i64 t309, .int .i64 t310, .int .i64 t311, .int .i64 t312] 24 (0, 0)) (by (with_reducible repeat (first | refine blk_drewN ?_ _ | refine blk_drew ?_ | refine blk_alloc ?_ _)); exact BK315.out) hb); have n1_ := Aside0.mk (below_step (by repeat (first | (with_reducible first | exact HB.out | apply below_alloc | apply pw_below_drewN | apply below_drew1 | refine below_set ?_ GE315.out) | exact HB.out)) hb); clear BK315; clear HB; have BK315 := n0_; have HB := n1_; clear n0_ n1_; (try clear hb); (try clear hb2); (try clear hk); (try clear hi); have hcz33_0 : w32.cell? ⟨gb315, 0, none⟩ = some (.int .i64 t304) := (blk_cell BK315.out 0).trans rfl; have hcz33_1 : w32.cell? ⟨gb315, 1, none⟩ = some (.int .i64 t305) := (blk_cell BK315.out 1).trans rfl; have hcz33_2 : w32.cell? ⟨gb315, 2, none⟩ = some (.int .i64 t306) := (blk_cell BK315.out 2).trans rfl; have hcz33_3 : w32.cell? ⟨gb315, 3, none⟩ = some (.int .i64 t307) := (blk_cell BK315.out 3).trans rfl; have hcz33_4 : w32.cell? ⟨gb315, 4, none⟩ = some (.int .i64 t308) := (blk_cell BK315.out 4).trans rfl; have hcz33_5 : w32.cell? ⟨gb315, 5, none⟩ = some (.int .i64 t309) := (blk_cell BK315.out 5).trans rfl; have hcz33_6 : w32.cell? ⟨gb315, 6, none⟩ = some (.int .i64 t310) := (blk_cell BK315.out 6).trans rfl; have hcz33_7 : w32.cell? ⟨gb315, 7, none⟩ = some (.int .i64 t311) := (blk_cell BK315.out 7).trans rfl; have hcz33_8 : w32.cell? ⟨gb315, 8, none⟩ = some (.int .i64 t312) := (blk_cell BK315.out 8).trans rfl; have hfz33_0 := blk_frozen BK315.out 0; have hfz33_1 := blk_frozen BK315.out 1; have hfz33_2 := blk_frozen BK315.out 2; have hfz33_3 := blk_frozen BK315.out 3; have hfz33_4 := blk_frozen BK315.out 4; have hfz33_5 := blk_frozen BK315.out 5; have hfz33_6 := blk_frozen BK315.out 6; have hfz33_7 := blk_frozen BK315.out 7; have hfz33_8 := blk_frozen BK315.out 8) | (go_at_call 16; (with_reducible refine (impl_ValidPlace.calls k t304 t305 t306 t307 t308 t309 t310 t311 t312 true _ A14.out).mono ?_); rintro e w34 ⟨rfl, hb⟩; have n0_ := Aside0.mk (blk_below (g := gb315) (o := .cells #[.int .i64 t304, .int .i64 t305, .int .i64 t306, .int .i64 t307, .int .i64 t308, .int .i64 t309, .int .i64 t310, .int .i64 t311, .int .i64 t312] 24 (0, 0)) (by (with_reducible repeat (first | refine blk_drewN ?_ _ | refine blk_drew ?_ | refine blk_alloc ?_ _)); exact BK315.out) hb); have n1_ := Aside0.mk (below_step (by repeat (first | (with_reducible first | exact HB.out | apply below_alloc | apply pw_below_drewN | apply below_drew1 | refine below_set ?_ GE315.out) | exact HB.out)) hb); clear BK315; clear HB; have BK315 := n0_; have HB := n1_; clear n0_ n1_; (try clear hb); (try clear hb2); (try clear hk); (try clear hi)))
                go_meet
                case rel => exact ⟨_, (decide (t314 > 400)), (by first | rfl | (simp; done) | (simp [*]; done)), H', ⟨by first | omega | exact Nat.le_refl _⟩, ⟨by (with_reducible repeat (first | refine blk_drewN ?_ _ | refine blk_drew ?_ | refine blk_alloc ?_ _)); exact BK315.out⟩, ⟨by repeat (first | (with_reducible first | exact HB.out | apply below_alloc | apply pw_below_drewN | apply below_drew1 | refine below_set ?_ GE315.out) | exact HB.out)⟩⟩
        · replace c15 := Bool.eq_false_iff.mpr c15
          subst c15
          have H1 : (laws_FnPlaceInside.j0 k t313 t314 t316 true t304 t305 t306 t307 t308 t309 t310 t311 t312) = some r := by rw [if_neg (show ¬ (false = true) by decide)] at H; exact H
          clear H
          have H := H1
          clear H1
          have H' := Aside0.mk H
          clear H
          have hcz35_0 : w9.cell? ⟨gb315, 0, none⟩ = some (.int .i64 t304) := (blk_cell BK315.out 0).trans rfl
          have hcz35_1 : w9.cell? ⟨gb315, 1, none⟩ = some (.int .i64 t305) := (blk_cell BK315.out 1).trans rfl
          have hcz35_2 : w9.cell? ⟨gb315, 2, none⟩ = some (.int .i64 t306) := (blk_cell BK315.out 2).trans rfl
          have hcz35_3 : w9.cell? ⟨gb315, 3, none⟩ = some (.int .i64 t307) := (blk_cell BK315.out 3).trans rfl
          have hcz35_4 : w9.cell? ⟨gb315, 4, none⟩ = some (.int .i64 t308) := (blk_cell BK315.out 4).trans rfl
          have hcz35_5 : w9.cell? ⟨gb315, 5, none⟩ = some (.int .i64 t309) := (blk_cell BK315.out 5).trans rfl
          have hcz35_6 : w9.cell? ⟨gb315, 6, none⟩ = some (.int .i64 t310) := (blk_cell BK315.out 6).trans rfl
          have hcz35_7 : w9.cell? ⟨gb315, 7, none⟩ = some (.int .i64 t311) := (blk_cell BK315.out 7).trans rfl
          have hcz35_8 : w9.cell? ⟨gb315, 8, none⟩ = some (.int .i64 t312) := (blk_cell BK315.out 8).trans rfl
          have hfz35_0 := blk_frozen BK315.out 0
          have hfz35_1 := blk_frozen BK315.out 1
          have hfz35_2 := blk_frozen BK315.out 2
          have hfz35_3 := blk_frozen BK315.out 3
          have hfz35_4 := blk_frozen BK315.out 4
          have hfz35_5 := blk_frozen BK315.out 5
          have hfz35_6 := blk_frozen BK315.out 6
          have hfz35_7 := blk_frozen BK315.out 7
          have hfz35_8 := blk_frozen BK315.out 8
          go_wp2_with (first | ((with_reducible refine gate_callee (f := 15) rfl ?_); refine goesL_ (some 24) rfl rfl Try.func15 (by kernel_rfl) rfl #[.agg #[.int .i64 t304, .int .i64 t305, .int .i64 t306, .int .i64 t307, .int .i64 t308, .int .i64 t309, .int .i64 t310, .int .i64 t311, .int .i64 t312], .int .i64 t313, .int .i64 t314] rfl (by (try simp only [List.map_toArray, List.map_cons, List.map_nil]); first | done | rfl | (simp only [List.length_drop, List.length_take]; rfl)) ?_; (with_reducible refine (spec_PlaceInside.calls t304 t305 t306 t307 t308 t309 t310 t311 t312 t313 t314 t317 _ A10.out).mono ?_); rintro e w36 ⟨rfl, hb⟩; refine ⟨_, rfl, ?_⟩; have n0_ := Aside0.mk (blk_below (g := gb315) (o := .cells #[.int .i64 t304, .int .i64 t305, .int .i64 t306, .int .i64 t307, .int .i64 t308, .int .i64 t309, .int .i64 t310, .int .i64 t311, .int .i64 t312] 24 (0, 0)) (by (with_reducible repeat (first | refine blk_drewN ?_ _ | refine blk_drew ?_ | refine blk_alloc ?_ _)); exact BK315.out) hb); have n1_ := Aside0.mk (below_step (by repeat (first | (with_reducible first | exact HB.out | apply below_alloc | apply pw_below_drewN | apply below_drew1 | refine below_set ?_ GE315.out) | exact HB.out)) hb); clear BK315; clear HB; have BK315 := n0_; have HB := n1_; clear n0_ n1_; (try clear hb); (try clear hb2); (try clear hk); (try clear hi); have hcz37_0 : w36.cell? ⟨gb315, 0, none⟩ = some (.int .i64 t304) := (blk_cell BK315.out 0).trans rfl; have hcz37_1 : w36.cell? ⟨gb315, 1, none⟩ = some (.int .i64 t305) := (blk_cell BK315.out 1).trans rfl; have hcz37_2 : w36.cell? ⟨gb315, 2, none⟩ = some (.int .i64 t306) := (blk_cell BK315.out 2).trans rfl; have hcz37_3 : w36.cell? ⟨gb315, 3, none⟩ = some (.int .i64 t307) := (blk_cell BK315.out 3).trans rfl; have hcz37_4 : w36.cell? ⟨gb315, 4, none⟩ = some (.int .i64 t308) := (blk_cell BK315.out 4).trans rfl; have hcz37_5 : w36.cell? ⟨gb315, 5, none⟩ = some (.int .i64 t309) := (blk_cell BK315.out 5).trans rfl; have hcz37_6 : w36.cell? ⟨gb315, 6, none⟩ = some (.int .i64 t310) := (blk_cell BK315.out 6).trans rfl; have hcz37_7 : w36.cell? ⟨gb315, 7, none⟩ = some (.int .i64 t311) := (blk_cell BK315.out 7).trans rfl; have hcz37_8 : w36.cell? ⟨gb315, 8, none⟩ = some (.int .i64 t312) := (blk_cell BK315.out 8).trans rfl; have hfz37_0 := blk_frozen BK315.out 0; have hfz37_1 := blk_frozen BK315.out 1; have hfz37_2 := blk_frozen BK315.out 2; have hfz37_3 := blk_frozen BK315.out 3; have hfz37_4 := blk_frozen BK315.out 4; have hfz37_5 := blk_frozen BK315.out 5; have hfz37_6 := blk_frozen BK315.out 6; have hfz37_7 := blk_frozen BK315.out 7; have hfz37_8 := blk_frozen BK315.out 8) | (go_at_call 16; (with_reducible refine (impl_ValidPlace.calls k t304 t305 t306 t307 t308 t309 t310 t311 t312 false _ A14.out).mono ?_); rintro e w38 ⟨rfl, hb⟩; have n0_ := Aside0.mk (blk_below (g := gb315) (o := .cells #[.int .i64 t304, .int .i64 t305, .int .i64 t306, .int .i64 t307, .int .i64 t308, .int .i64 t309, .int .i64 t310, .int .i64 t311, .int .i64 t312] 24 (0, 0)) (by (with_reducible repeat (first | refine blk_drewN ?_ _ | refine blk_drew ?_ | refine blk_alloc ?_ _)); exact BK315.out) hb); have n1_ := Aside0.mk (below_step (by repeat (first | (with_reducible first | exact HB.out | apply below_alloc | apply pw_below_drewN | apply below_drew1 | refine below_set ?_ GE315.out) | exact HB.out)) hb); clear BK315; clear HB; have BK315 := n0_; have HB := n1_; clear n0_ n1_; (try clear hb); (try clear hb2); (try clear hk); (try clear hi)))
          go_meet
          case rel => exact ⟨_, (true), (by first | rfl | (simp; done) | (simp [*]; done)), H', ⟨by first | omega | exact Nat.le_refl _⟩, ⟨by (with_reducible repeat (first | refine blk_drewN ?_ _ | refine blk_drew ?_ | refine blk_alloc ?_ _)); exact BK315.out⟩, ⟨by repeat (first | (with_reducible first | exact HB.out | apply below_alloc | apply pw_below_drewN | apply below_drew1 | refine below_set ?_ GE315.out) | exact HB.out)⟩⟩
    case rest =>
      clear HC5
      try clear c1
      try clear c2
      try clear c2b0
      try clear c2b1
      try clear p2
      try clear c3
      try clear c11
      try clear c11b0
      try clear c11b1
      try clear c11b2
      try clear c13
      try clear c14
      try clear c15
      try clear c16
      try clear c16b0
      try clear c21
      try clear c21b0
      try clear c26
      try clear c26b0
      try clear hcz12_0
      try clear hcz12_1
      try clear hcz12_2
      try clear hcz12_3
      try clear hcz12_4
      try clear hcz12_5
      try clear hcz12_6
      try clear hcz12_7
      try clear hcz12_8
      try clear hcz17_0
      try clear hcz17_1
      try clear hcz17_2
      try clear hcz17_3
      try clear hcz17_4
      try clear hcz17_5
      try clear hcz17_6
      try clear hcz17_7
      try clear hcz17_8
      try clear hcz19_0
      try clear hcz19_1
      try clear hcz19_2
      try clear hcz19_3
      try clear hcz19_4
      try clear hcz19_5
      try clear hcz19_6
      try clear hcz19_7
      try clear hcz19_8
      try clear hcz22_0
      try clear hcz22_1
      try clear hcz22_2
      try clear hcz22_3
      try clear hcz22_4
      try clear hcz22_5
      try clear hcz22_6
      try clear hcz22_7
      try clear hcz22_8
      try clear hcz24_0
      try clear hcz24_1
      try clear hcz24_2
      try clear hcz24_3
      try clear hcz24_4
      try clear hcz24_5
      try clear hcz24_6
      try clear hcz24_7
      try clear hcz24_8
      try clear hcz27_0
      try clear hcz27_1
      try clear hcz27_2
      try clear hcz27_3
      try clear hcz27_4
      try clear hcz27_5
      try clear hcz27_6
      try clear hcz27_7
      try clear hcz27_8
      try clear hcz29_0
      try clear hcz29_1
      try clear hcz29_2
      try clear hcz29_3
      try clear hcz29_4
      try clear hcz29_5
      try clear hcz29_6
      try clear hcz29_7
      try clear hcz29_8
      try clear hcz31_0
      try clear hcz31_1
      try clear hcz31_2
      try clear hcz31_3
      try clear hcz31_4
      try clear hcz31_5
      try clear hcz31_6
      try clear hcz31_7
      try clear hcz31_8
      try clear hcz33_0
      try clear hcz33_1
      try clear hcz33_2
      try clear hcz33_3
      try clear hcz33_4
      try clear hcz33_5
      try clear hcz33_6
      try clear hcz33_7
      try clear hcz33_8
      try clear hcz35_0
      try clear hcz35_1
      try clear hcz35_2
      try clear hcz35_3
      try clear hcz35_4
      try clear hcz35_5
      try clear hcz35_6
      try clear hcz35_7
      try clear hcz35_8
      try clear hcz37_0
      try clear hcz37_1
      try clear hcz37_2
      try clear hcz37_3
      try clear hcz37_4
      try clear hcz37_5
      try clear hcz37_6
      try clear hcz37_7
      try clear hcz37_8
      try clear hcz8_0
      try clear hcz8_1
      try clear hcz8_2
      try clear hcz8_3
      try clear hcz8_4
      try clear hcz8_5
      try clear hcz8_6
      try clear hcz8_7
      try clear hcz8_8
      try clear hfz12_0
      try clear hfz12_1
      try clear hfz12_2
      try clear hfz12_3
      try clear hfz12_4
      try clear hfz12_5
      try clear hfz12_6
      try clear hfz12_7
      try clear hfz12_8
      try clear hfz17_0
      try clear hfz17_1
      try clear hfz17_2
      try clear hfz17_3
      try clear hfz17_4
      try clear hfz17_5
      try clear hfz17_6
      try clear hfz17_7
      try clear hfz17_8
      try clear hfz19_0
      try clear hfz19_1
      try clear hfz19_2
      try clear hfz19_3
      try clear hfz19_4
      try clear hfz19_5
      try clear hfz19_6
      try clear hfz19_7
      try clear hfz19_8
      try clear hfz22_0
      try clear hfz22_1
      try clear hfz22_2
      try clear hfz22_3
      try clear hfz22_4
      try clear hfz22_5
      try clear hfz22_6
      try clear hfz22_7
      try clear hfz22_8
      try clear hfz24_0
      try clear hfz24_1
      try clear hfz24_2
      try clear hfz24_3
      try clear hfz24_4
      try clear hfz24_5
      try clear hfz24_6
      try clear hfz24_7
      try clear hfz24_8
      try clear hfz27_0
      try clear hfz27_1
      try clear hfz27_2
      try clear hfz27_3
      try clear hfz27_4
      try clear hfz27_5
      try clear hfz27_6
      try clear hfz27_7
      try clear hfz27_8
      try clear hfz29_0
      try clear hfz29_1
      try clear hfz29_2
      try clear hfz29_3
      try clear hfz29_4
      try clear hfz29_5
      try clear hfz29_6
      try clear hfz29_7
      try clear hfz29_8
      try clear hfz31_0
      try clear hfz31_1
      try clear hfz31_2
      try clear hfz31_3
      try clear hfz31_4
      try clear hfz31_5
      try clear hfz31_6
      try clear hfz31_7
      try clear hfz31_8
      try clear hfz33_0
      try clear hfz33_1
      try clear hfz33_2
      try clear hfz33_3
      try clear hfz33_4
      try clear hfz33_5
      try clear hfz33_6
      try clear hfz33_7
      try clear hfz33_8
      try clear hfz35_0
      try clear hfz35_1
      try clear hfz35_2
      try clear hfz35_3
      try clear hfz35_4
      try clear hfz35_5
      try clear hfz35_6
      try clear hfz35_7
      try clear hfz35_8
      try clear hfz37_0
      try clear hfz37_1
      try clear hfz37_2
      try clear hfz37_3
      try clear hfz37_4
      try clear hfz37_5
      try clear hfz37_6
      try clear hfz37_7
      try clear hfz37_8
      try clear hfz8_0
      try clear hfz8_1
      try clear hfz8_2
      try clear hfz8_3
      try clear hfz8_4
      try clear hfz8_5
      try clear hfz8_6
      try clear hfz8_7
      try clear hfz8_8
      obtain ⟨kq, x46_4, rfl, HA, HJ4, BK315, HB⟩ := hcut
      cases kq with
      | zero => exact absurd HA.out (by simp [laws_FnPlaceInside.j0])
      | succ kj4 =>
        have H := HA.out
        clear HA
        simp only [laws_FnPlaceInside.j0] at H
        by_cases c39 : x46_4 = true
        · subst c39
          have H1 : ((spec_PlaceInside.f t304 t305 t306 t307 t308 t309 t310 t311 t312 t313 t314).bind fun t319 => (some (t316 == t319))) = some r := by rw [if_pos rfl] at H; exact H
          clear H
          have H := H1
          clear H1
          replace H := Option.bind_eq_some_iff.mp H
          obtain ⟨t319, A400, H⟩ := H
          replace H : (some (t316 == t319)) = some r := H
          have A40 := Aside0.mk A400
          clear A400
          obtain rfl := Option.some.inj H
          have hcz41_0 : wc.cell? ⟨gb315, 0, none⟩ = some (.int .i64 t304) := (blk_cell BK315.out 0).trans rfl
          have hcz41_1 : wc.cell? ⟨gb315, 1, none⟩ = some (.int .i64 t305) := (blk_cell BK315.out 1).trans rfl
          have hcz41_2 : wc.cell? ⟨gb315, 2, none⟩ = some (.int .i64 t306) := (blk_cell BK315.out 2).trans rfl
          have hcz41_3 : wc.cell? ⟨gb315, 3, none⟩ = some (.int .i64 t307) := (blk_cell BK315.out 3).trans rfl
          have hcz41_4 : wc.cell? ⟨gb315, 4, none⟩ = some (.int .i64 t308) := (blk_cell BK315.out 4).trans rfl
          have hcz41_5 : wc.cell? ⟨gb315, 5, none⟩ = some (.int .i64 t309) := (blk_cell BK315.out 5).trans rfl
          have hcz41_6 : wc.cell? ⟨gb315, 6, none⟩ = some (.int .i64 t310) := (blk_cell BK315.out 6).trans rfl
          have hcz41_7 : wc.cell? ⟨gb315, 7, none⟩ = some (.int .i64 t311) := (blk_cell BK315.out 7).trans rfl
          have hcz41_8 : wc.cell? ⟨gb315, 8, none⟩ = some (.int .i64 t312) := (blk_cell BK315.out 8).trans rfl
          have hfz41_0 := blk_frozen BK315.out 0
          have hfz41_1 := blk_frozen BK315.out 1
          have hfz41_2 := blk_frozen BK315.out 2
          have hfz41_3 := blk_frozen BK315.out 3
          have hfz41_4 := blk_frozen BK315.out 4
          have hfz41_5 := blk_frozen BK315.out 5
          have hfz41_6 := blk_frozen BK315.out 6
          have hfz41_7 := blk_frozen BK315.out 7
          have hfz41_8 := blk_frozen BK315.out 8
          go_wp2_with (first | ((with_reducible refine gate_callee (f := 15) rfl ?_); refine goesL_ (some 51) rfl rfl Try.func15 (by kernel_rfl) rfl #[.agg #[.int .i64 t304, .int .i64 t305, .int .i64 t306, .int .i64 t307, .int .i64 t308, .int .i64 t309, .int .i64 t310, .int .i64 t311, .int .i64 t312], .int .i64 t313, .int .i64 t314] rfl (by (try simp only [List.map_toArray, List.map_cons, List.map_nil]); first | done | rfl | (simp only [List.length_drop, List.length_take]; rfl)) ?_; (with_reducible refine (spec_PlaceInside.calls t304 t305 t306 t307 t308 t309 t310 t311 t312 t313 t314 t319 _ A40.out).mono ?_); rintro e w42 ⟨rfl, hb⟩; refine ⟨_, rfl, ?_⟩; have n0_ := Aside0.mk (blk_below (g := gb315) (o := .cells #[.int .i64 t304, .int .i64 t305, .int .i64 t306, .int .i64 t307, .int .i64 t308, .int .i64 t309, .int .i64 t310, .int .i64 t311, .int .i64 t312] 24 (0, 0)) (by (with_reducible repeat (first | refine blk_drewN ?_ _ | refine blk_drew ?_ | refine blk_alloc ?_ _)); exact BK315.out) hb); have n1_ := Aside0.mk (below_step (by repeat (first | (with_reducible first | exact HB.out | apply below_alloc | apply pw_below_drewN | apply below_drew1 | refine below_set ?_ GE315.out) | exact HB.out)) hb); clear BK315; clear HB; have BK315 := n0_; have HB := n1_; clear n0_ n1_; (try clear hb); (try clear hb2); (try clear hk); (try clear hi)))
          go_ret
          exact ⟨by first | rfl | (simp [errW_none, errW_some] <;> rfl) | (simp [*, errW_none, errW_some] <;> rfl), by repeat (first | (with_reducible first | exact HB.out | apply below_alloc | apply pw_below_drewN | apply below_drew1 | refine below_set ?_ GE315.out) | exact HB.out)⟩
        · replace c39 := Bool.eq_false_iff.mpr c39
          subst c39
          have H1 : ((laws_room.f t313 t314).bind fun bt320 => ((impl_PlaceRect.f kj4 t304 t305 t306 t307 t308 t309 t310 t311 t312 t313 t314).bind fun bt324 => ((laws_within2.f bt320.1 bt320.2.1 bt320.2.2.1 bt320.2.2.2 bt324.1 bt324.2.1 bt324.2.2.1 bt324.2.2.2).bind fun t328 => (some (t316 == t328))))) = some r := by rw [if_neg (show ¬ (false = true) by decide)] at H; exact H
          clear H
          have H := H1
          clear H1
          replace H := Option.bind_eq_some_iff.mp H
          obtain ⟨⟨t320, t321, t322, t323⟩, A430, H⟩ := H
          replace H : ((impl_PlaceRect.f kj4 t304 t305 t306 t307 t308 t309 t310 t311 t312 t313 t314).bind fun bt324 => ((laws_within2.f t320 t321 t322 t323 bt324.1 bt324.2.1 bt324.2.2.1 bt324.2.2.2).bind fun t328 => (some (t316 == t328)))) = some r := H
          have A43 := Aside0.mk A430
          clear A430
          replace H := Option.bind_eq_some_iff.mp H
          obtain ⟨⟨t324, t325, t326, t327⟩, A440, H⟩ := H
          replace H : ((laws_within2.f t320 t321 t322 t323 t324 t325 t326 t327).bind fun t328 => (some (t316 == t328))) = some r := H
          have A44 := Aside0.mk A440
          clear A440
          replace H := Option.bind_eq_some_iff.mp H
          obtain ⟨t328, A450, H⟩ := H
          replace H : (some (t316 == t328)) = some r := H
          have A45 := Aside0.mk A450
          clear A450
          obtain rfl := Option.some.inj H
          try go_wp2
          have n0_ := Aside0.mk (blk_drew BK315.out)
          have n1_ := Aside0.mk (below_drew1 HB.out)
          clear BK315
          clear HB
          have BK315 := n0_
          have HB := n1_
          clear n0_ n1_
          refine start_ (n := 11) (S := fun w' => w'.cell? ⟨gb315, 0, none⟩ = some (.int .i64 t304) ∧ w'.cell? ⟨gb315, 1, none⟩ = some (.int .i64 t305) ∧ w'.cell? ⟨gb315, 2, none⟩ = some (.int .i64 t306) ∧ w'.cell? ⟨gb315, 3, none⟩ = some (.int .i64 t307) ∧ w'.cell? ⟨gb315, 4, none⟩ = some (.int .i64 t308) ∧ w'.cell? ⟨gb315, 5, none⟩ = some (.int .i64 t309) ∧ w'.cell? ⟨gb315, 6, none⟩ = some (.int .i64 t310) ∧ w'.cell? ⟨gb315, 7, none⟩ = some (.int .i64 t311) ∧ w'.cell? ⟨gb315, 8, none⟩ = some (.int .i64 t312)) (ds := []) #[false, false, false, false, false, false, false, false, false, false, false] (by kernel_rfl) rfl rfl ⟨(blk_cell BK315.out 0).trans rfl, (blk_cell BK315.out 1).trans rfl, (blk_cell BK315.out 2).trans rfl, (blk_cell BK315.out 3).trans rfl, (blk_cell BK315.out 4).trans rfl, (blk_cell BK315.out 5).trans rfl, (blk_cell BK315.out 6).trans rfl, (blk_cell BK315.out 7).trans rfl, (blk_cell BK315.out 8).trans rfl⟩ (fun hHeld => ?_); refine with_tabW laws_FnPlaceInside.tab7 laws_FnPlaceInside.bits7 (fun HT_ HW_ => ?_)
          generalize wc.drew = w46 at BK315 HB hHeld ⊢
          refine pure_ (i := 0) (N := some 53) (v := ?_) (a' := ?_) #[true, false, false, false, false, false, false, false, false, false, false] rfl rfl (any_of HT_.out (by kernel_rfl)) (fun _ _ _ h => h) (Or.inl ⟨by rfl, ?_⟩) ?_ ?_
          rotate_left
          · intro w'
            go_simp
            with_reducible rfl
          rotate_left
          · simp only [Act.put, List.setIfInBounds_toArray, List.set_cons_zero, List.set_cons_succ, i64_w, i32_w]
            rfl
          refine pure_ (i := 1) (N := some 54) (v := ?_) (a' := ?_) #[true, true, false, false, false, false, false, false, false, false, false] rfl rfl (any_of HT_.out (by kernel_rfl)) (fun _ _ _ h => h) (Or.inl ⟨by rfl, ?_⟩) ?_ ?_
          rotate_left
          · intro w'
            go_simp
            with_reducible rfl
          rotate_left
          · simp only [Act.put, List.setIfInBounds_toArray, List.set_cons_zero, List.set_cons_succ, i64_w, i32_w]
            rfl
          refine pure_ (i := 2) (N := some 55) (v := ?_) (a' := ?_) #[true, true, true, false, false, false, false, false, false, false, false] rfl rfl (any_of HT_.out (by kernel_rfl)) (fun _ _ _ h => h) (Or.inl ⟨by rfl, ?_⟩) ?_ ?_
          rotate_left
          · intro w'
            go_simp
            with_reducible rfl
          rotate_left
          · simp only [Act.put, List.setIfInBounds_toArray, List.set_cons_zero, List.set_cons_succ, i64_w, i32_w]
            rfl
          refine pure_ (i := 5) (N := some 58) (v := ?_) (a' := ?_) #[true, true, true, false, false, true, false, false, false, false, false] rfl rfl (any_of HT_.out (by kernel_rfl)) (fun _ _ _ h => h) (Or.inl ⟨by rfl, ?_⟩) ?_ ?_
          rotate_left
          · intro w'
            go_simp
            with_reducible rfl
          rotate_left
          · simp only [Act.put, List.setIfInBounds_toArray, List.set_cons_zero, List.set_cons_succ, i64_w, i32_w]
            rfl
          refine pure_ (i := 6) (N := some 59) (v := ?_) (a' := ?_) #[true, true, true, false, false, true, true, false, false, false, false] rfl rfl (any_of HT_.out (by kernel_rfl)) (fun _ _ _ h => h) (Or.inl ⟨by rfl, ?_⟩) ?_ ?_
          rotate_left
          · intro w'
            go_simp
            with_reducible rfl
          rotate_left
          · simp only [Act.put, List.setIfInBounds_toArray, List.set_cons_zero, List.set_cons_succ, i64_w, i32_w]
            rfl
          refine take_ (i := 4) (N := some 57) (v := ?_) (a' := ?_) #[true, true, true, false, true, true, true, false, false, false, false] rfl rfl (take_ofW HT_.out HW_.out (by kernel_rfl)) (fun _ _ _ h => h) (Or.inl ⟨by rfl, ?_⟩) hHeld ?_ ?_
          rotate_left
          · rintro w' ⟨s0, s1, s2, s3, s4, s5, s6, s7, s8⟩
            go_simp
            with_reducible rfl
          rotate_left
          · simp only [Act.put, List.setIfInBounds_toArray, List.set_cons_zero, List.set_cons_succ, i64_w, i32_w]
            rfl
          refine one_ (i := 3) (N := some 56) #[true, true, true, true, true, true, true, false, false, false, false] rfl rfl (one_of HT_.out (by kernel_rfl)) (by decide) (fun K hK => ?_)
          refine goes_ Try.func18 (by kernel_rfl) rfl #[.int .i64 t313, .int .i64 t314] (by rfl) rfl rfl (by (try simp only [List.map_toArray, List.map_cons, List.map_nil]); first | done | rfl | (simp only [List.length_drop, List.length_take]; rfl)) ?_
          with_reducible refine (laws_room.calls t313 t314 t320 t321 t322 t323 _ A43.out).mono ?_
          rintro e w47 ⟨rfl, hb⟩
          refine ⟨_, rfl, ?_⟩
          have n0_ := Aside0.mk (blk_below (g := gb315) (o := .cells #[.int .i64 t304, .int .i64 t305, .int .i64 t306, .int .i64 t307, .int .i64 t308, .int .i64 t309, .int .i64 t310, .int .i64 t311, .int .i64 t312] 24 (0, 0)) (by (with_reducible repeat (first | refine blk_drewN ?_ _ | refine blk_drew ?_ | refine blk_alloc ?_ _)); exact BK315.out) hb)
          have n1_ := Aside0.mk (below_step (by repeat (first | (with_reducible first | exact HB.out | apply below_alloc | apply pw_below_drewN | apply below_drew1 | refine below_set ?_ GE315.out) | exact HB.out)) hb)
          clear BK315
          clear HB
          have BK315 := n0_
          have HB := n1_
          clear n0_ n1_
          (try clear hb)
          (try clear hb2)
          (try clear hk)
          (try clear hi)
          refine hK.out _ _ ⟨(blk_cell BK315.out 0).trans rfl, (blk_cell BK315.out 1).trans rfl, (blk_cell BK315.out 2).trans rfl, (blk_cell BK315.out 3).trans rfl, (blk_cell BK315.out 4).trans rfl, (blk_cell BK315.out 5).trans rfl, (blk_cell BK315.out 6).trans rfl, (blk_cell BK315.out 7).trans rfl, (blk_cell BK315.out 8).trans rfl⟩ (fun hHeld => ?_)
          clear hK K
          refine norm_ (a' := ?_) ?_ ?_
          rotate_left
          · show Act.put _ (some 56) _ = _
            simp only [Act.put, List.setIfInBounds_toArray, List.set_cons_zero, List.set_cons_succ, i64_w, i32_w]
            rfl
          refine one_ (i := 7) (N := some 60) #[true, true, true, true, true, true, true, true, false, false, false] rfl rfl (one_of HT_.out (by kernel_rfl)) (by decide) (fun K hK => ?_)
          refine goes_ Try.func19 (by kernel_rfl) rfl #[.agg #[.int .i64 t304, .int .i64 t305, .int .i64 t306, .int .i64 t307, .int .i64 t308, .int .i64 t309, .int .i64 t310, .int .i64 t311, .int .i64 t312], .int .i64 t313, .int .i64 t314] (by rfl) rfl rfl (by (try simp only [List.map_toArray, List.map_cons, List.map_nil]); first | done | rfl | (simp only [List.length_drop, List.length_take]; rfl)) ?_
          with_reducible refine (impl_PlaceRect.calls kj4 t304 t305 t306 t307 t308 t309 t310 t311 t312 t313 t314 t324 t325 t326 t327 _ A44.out).mono ?_
          rintro e w48 ⟨rfl, hb⟩
          refine ⟨_, rfl, ?_⟩
          have n0_ := Aside0.mk (blk_below (g := gb315) (o := .cells #[.int .i64 t304, .int .i64 t305, .int .i64 t306, .int .i64 t307, .int .i64 t308, .int .i64 t309, .int .i64 t310, .int .i64 t311, .int .i64 t312] 24 (0, 0)) (by (with_reducible repeat (first | refine blk_drewN ?_ _ | refine blk_drew ?_ | refine blk_alloc ?_ _)); exact BK315.out) hb)
          have n1_ := Aside0.mk (below_step (by repeat (first | (with_reducible first | exact HB.out | apply below_alloc | apply pw_below_drewN | apply below_drew1 | refine below_set ?_ GE315.out) | exact HB.out)) hb)
          clear BK315
          clear HB
          have BK315 := n0_
          have HB := n1_
          clear n0_ n1_
          (try clear hb)
          (try clear hb2)
          (try clear hk)
          (try clear hi)
          refine hK.out _ _ ⟨(blk_cell BK315.out 0).trans rfl, (blk_cell BK315.out 1).trans rfl, (blk_cell BK315.out 2).trans rfl, (blk_cell BK315.out 3).trans rfl, (blk_cell BK315.out 4).trans rfl, (blk_cell BK315.out 5).trans rfl, (blk_cell BK315.out 6).trans rfl, (blk_cell BK315.out 7).trans rfl, (blk_cell BK315.out 8).trans rfl⟩ (fun hHeld => ?_)
          clear hK K
          refine norm_ (a' := ?_) ?_ ?_
          rotate_left
          · show Act.put _ (some 60) _ = _
            simp only [Act.put, List.setIfInBounds_toArray, List.set_cons_zero, List.set_cons_succ, i64_w, i32_w]
            rfl
          refine one_ (i := 8) (N := some 61) #[true, true, true, true, true, true, true, true, true, false, false] rfl rfl (one_of HT_.out (by kernel_rfl)) (by decide) (fun K hK => ?_)
          refine goes_ Try.func17 (by kernel_rfl) rfl #[.agg #[.int .i64 t320, .int .i64 t321, .int .i64 t322, .int .i64 t323], .agg #[.int .i64 t324, .int .i64 t325, .int .i64 t326, .int .i64 t327]] (by rfl) rfl rfl (by (try simp only [List.map_toArray, List.map_cons, List.map_nil]); first | done | rfl | (simp only [List.length_drop, List.length_take]; rfl)) ?_
          with_reducible refine (laws_within2.calls t320 t321 t322 t323 t324 t325 t326 t327 t328 _ A45.out).mono ?_
          rintro e w49 ⟨rfl, hb⟩
          refine ⟨_, rfl, ?_⟩
          have n0_ := Aside0.mk (blk_below (g := gb315) (o := .cells #[.int .i64 t304, .int .i64 t305, .int .i64 t306, .int .i64 t307, .int .i64 t308, .int .i64 t309, .int .i64 t310, .int .i64 t311, .int .i64 t312] 24 (0, 0)) (by (with_reducible repeat (first | refine blk_drewN ?_ _ | refine blk_drew ?_ | refine blk_alloc ?_ _)); exact BK315.out) hb)
          have n1_ := Aside0.mk (below_step (by repeat (first | (with_reducible first | exact HB.out | apply below_alloc | apply pw_below_drewN | apply below_drew1 | refine below_set ?_ GE315.out) | exact HB.out)) hb)
          clear BK315
          clear HB
          have BK315 := n0_
          have HB := n1_
          clear n0_ n1_
          (try clear hb)
          (try clear hb2)
          (try clear hk)
          (try clear hi)
          refine hK.out _ _ ⟨(blk_cell BK315.out 0).trans rfl, (blk_cell BK315.out 1).trans rfl, (blk_cell BK315.out 2).trans rfl, (blk_cell BK315.out 3).trans rfl, (blk_cell BK315.out 4).trans rfl, (blk_cell BK315.out 5).trans rfl, (blk_cell BK315.out 6).trans rfl, (blk_cell BK315.out 7).trans rfl, (blk_cell BK315.out 8).trans rfl⟩ (fun hHeld => ?_)
          clear hK K
          refine norm_ (a' := ?_) ?_ ?_
          rotate_left
          · show Act.put _ (some 61) _ = _
            simp only [Act.put, List.setIfInBounds_toArray, List.set_cons_zero, List.set_cons_succ, i64_w, i32_w]
            rfl
          refine pure_ (i := 9) (N := some 62) (v := ?_) (a' := ?_) #[true, true, true, true, true, true, true, true, true, true, false] rfl rfl (any_of HT_.out (by kernel_rfl)) (fun _ _ _ h => h) (Or.inl ⟨by rfl, ?_⟩) ?_ ?_
          rotate_left
          · intro w'
            go_simp
            with_reducible rfl
          rotate_left
          · simp only [Act.put, List.setIfInBounds_toArray, List.set_cons_zero, List.set_cons_succ, i64_w, i32_w]
            rfl
          refine pure_ (i := 10) (N := some 2) (v := ?_) (a' := ?_) #[true, true, true, true, true, true, true, true, true, true, true] rfl rfl (any_of HT_.out (by kernel_rfl)) (fun _ _ _ h => h) (Or.inl ⟨by rfl, ?_⟩) ?_ ?_
          rotate_left
          · intro w'
            go_simp
            with_reducible rfl
          rotate_left
          · simp only [Act.put, List.setIfInBounds_toArray, List.set_cons_zero, List.set_cons_succ, i64_w, i32_w]
            rfl
          refine done_ (done_of HT_.out (by kernel_rfl)) ?_
          try go_wp2
          go_ret
          exact ⟨by first | rfl | (simp [errW_none, errW_some] <;> rfl) | (simp [*, errW_none, errW_some] <;> rfl), by repeat (first | (with_reducible first | exact HB.out | apply below_alloc | apply pw_below_drewN | apply below_drew1 | refine below_set ?_ GE315.out) | exact HB.out)⟩

/-- THE ONE PURE STATEMENT of laws_FnPlaceInside: yours. -/
def laws_FnPlaceInside.Pure : Prop := ∀ (l0 : List Int), l0.length ≤ maxLen → l0.length * 1 ≤ 140737488351232 → (∀ x ∈ l0, (Lit.int .u8 x).wf = true) → ∃ k, laws_FnPlaceInside.f k l0 = some true
theorem laws_FnPlaceInside.walk (P : laws_FnPlaceInside.Pure) (a0 : Option Addr) (len0 cap0 : Nat) (z0 : List Int) (w : World) (w0 : (a0 = none ∧ len0 = 0 ∧ cap0 = 0 ∧ z0 = []) ∨ ∃ x, a0 = some x ∧ len0 ≤ cap0 ∧ cap0 ≤ maxLen ∧ z0.length = cap0 ∧ (∀ i, i < z0.length → w.cell? (x.add i) = some (.int .u8 (z0.getD i 0))) ∧ ∀ n ∈ z0, (Lit.int .u8 n).wf = true) (y0 : len0 * 1 ≤ 140737488351232) :
    Calls Try.prog 3 #[.slice a0 len0 cap0] w fun e w' => e = .returned (.bool true) ∧ Below w.heap.size w w' := by
  obtain ⟨l0, rfl, hr0, hm0, hw0, hc0⟩ := ReadsInt.ofRowC w0
  obtain ⟨k, h⟩ := P l0 hm0 y0 hw0
  refine (laws_FnPlaceInside.calls k _ _ l0 true w (Kd.C_of_reads (d := (0 : Int)) (h1 := fun _ => rfl) hr0) hc0 h).mono ?_
  rintro e w' ⟨rfl, hd⟩
  exact ⟨rfl, hd⟩

end Go.Proofs.Ytnekecbhjlamoaa.PFnPlaceInside
