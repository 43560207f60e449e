/- Contracts of the functions that FnFixPlace reaches: own text, written by reown.py after the print's pattern. No condition. -/
import Derived.Test.YtnekecbhjlamoaaQFnFixPlacex1
import Derived.Test.YtnekecbhjlamoaaQFnFixPlacex2
import Derived.Test.YtnekecbhjlamoaaQFnFixPlacex4
namespace Go.Proofs.Ytnekecbhjlamoaa.PFnFixPlace
open Go.RowKit Go.Proofs.YtnekecbhjlamoaaW.PrintWords Go.Proofs.YtnekecbhjlamoaaW.PrintLast Go.Proofs.YtnekecbhjlamoaaW.PrintMore
open Go.Proofs.Ytnekecbhjlamoaa.MxMn
attribute [local go_sem] max2_mx min2_mn max_two min_two max_three min_three max_four min_four   -- for this text's walks alone
set_option linter.unusedVariables false
set_option linter.unusedSimpArgs false

attribute [local go_sem high] eqA24 eqA31

/-! ### laws_FnFixPlace: function 7 -/
def laws_FnFixPlace.j0 : Nat → Int → Int → Bool → Bool → Bool → Int → Int → Int → Int → Int → Int → Int → Int → Int → Int → Int → Int → Int → Int → Int → Int → Int → Int → Int → Int → Int → Int → Int → Int → Int → Int → Int → Option (Bool)
 | 0, _, _, _, _, _, _, _, _, _, _, _, _, _, _, _, _, _, _, _, _, _, _, _, _, _, _, _, _, _, _, _, _ => none
 | k + 1, x4, x5, x7, x9, x48, x325000, x325001, x325002, x325003, x325004, x325005, x325006, x325007, x325008, x336000, x336001, x336002, x336003, x336004, x336005, x336006, x336007, x336008, x347000, x347001, x347002, x347003, x347004, x347005, x347006, x347007, x347008 => if x48 = true then ((laws_equalPlace.f x336000 x336001 x336002 x336003 x336004 x336005 x336006 x336007 x336008 x347000 x347001 x347002 x347003 x347004 x347005 x347006 x347007 x347008).bind fun t348 => (if t348 = true then (some (x7 == x9)) else (some false))) else ((impl_PlaceRect.f k x325000 x325001 x325002 x325003 x325004 x325005 x325006 x325007 x325008 x4 x5).bind fun bt349 => ((impl_PlaceRect.f k x336000 x336001 x336002 x336003 x336004 x336005 x336006 x336007 x336008 x4 x5).bind fun bt354 => ((impl_PlaceRect.f k x336000 x336001 x336002 x336003 x336004 x336005 x336006 x336007 x336008 77 99).bind fun bt359 => (if (bt349.1 == bt354.1 && (bt349.2.1 == bt354.2.1 && (bt349.2.2.1 == bt354.2.2.1 && (bt349.2.2.2 == bt354.2.2.2)))) = true then (if (bt359.1 == bt349.1 && (bt359.2.1 == bt349.2.1 && (bt359.2.2.1 == bt349.2.2.1 && (bt359.2.2.2 == bt349.2.2.2)))) = true then (some ((wrap64 ((wrap64 ((wrap64 (x336002 + x336003)) + x336006)) + x336007)) == 0)) else (some false)) else (some false)))))
def laws_FnFixPlace.f (k : Nat) (l0 : List Int) : Option (Bool) := if (l0.length : Int) > 1048576 then (some true) else ((spec_DrawFixPlace.f k l0).bind fun bt313 => ((impl_FixPlace.f k bt313.1 bt313.2.1 bt313.2.2.1 bt313.2.2.2.1 bt313.2.2.2.2.1 bt313.2.2.2.2.2.1 bt313.2.2.2.2.2.2.1 bt313.2.2.2.2.2.2.2.1 bt313.2.2.2.2.2.2.2.2.1 bt313.2.2.2.2.2.2.2.2.2.1 bt313.2.2.2.2.2.2.2.2.2.2).bind fun bt325 => ((spec_FixPlace.f k bt313.1 bt313.2.1 bt313.2.2.1 bt313.2.2.2.1 bt313.2.2.2.2.1 bt313.2.2.2.2.2.1 bt313.2.2.2.2.2.2.1 bt313.2.2.2.2.2.2.2.1 bt313.2.2.2.2.2.2.2.2.1 bt313.2.2.2.2.2.2.2.2.2.1 bt313.2.2.2.2.2.2.2.2.2.2).bind fun bt336 => ((laws_equalPlace.f bt325.1 bt325.2.1 bt325.2.2.1 bt325.2.2.2.1 bt325.2.2.2.2.1 bt325.2.2.2.2.2.1 bt325.2.2.2.2.2.2.1 bt325.2.2.2.2.2.2.2.1 bt325.2.2.2.2.2.2.2.2.1 bt336.1 bt336.2.1 bt336.2.2.1 bt336.2.2.2.1 bt336.2.2.2.2.1 bt336.2.2.2.2.2.1 bt336.2.2.2.2.2.2.1 bt336.2.2.2.2.2.2.2.1 bt336.2.2.2.2.2.2.2.2.1).bind fun t347 => (if t347 = true then (if (bt325.2.2.2.2.2.2.2.2.2 != bt336.2.2.2.2.2.2.2.2.2) = true then (laws_FnFixPlace.j0 k bt313.2.2.2.2.2.2.2.2.2.1 bt313.2.2.2.2.2.2.2.2.2.2 bt325.2.2.2.2.2.2.2.2.2 bt336.2.2.2.2.2.2.2.2.2 true bt313.1 bt313.2.1 bt313.2.2.1 bt313.2.2.2.1 bt313.2.2.2.2.1 bt313.2.2.2.2.2.1 bt313.2.2.2.2.2.2.1 bt313.2.2.2.2.2.2.2.1 bt313.2.2.2.2.2.2.2.2.1 bt325.1 bt325.2.1 bt325.2.2.1 bt325.2.2.2.1 bt325.2.2.2.2.1 bt325.2.2.2.2.2.1 bt325.2.2.2.2.2.2.1 bt325.2.2.2.2.2.2.2.1 bt325.2.2.2.2.2.2.2.2.1 bt336.1 bt336.2.1 bt336.2.2.1 bt336.2.2.2.1 bt336.2.2.2.2.1 bt336.2.2.2.2.2.1 bt336.2.2.2.2.2.2.1 bt336.2.2.2.2.2.2.2.1 bt336.2.2.2.2.2.2.2.2.1) else (laws_FnFixPlace.j0 k bt313.2.2.2.2.2.2.2.2.2.1 bt313.2.2.2.2.2.2.2.2.2.2 bt325.2.2.2.2.2.2.2.2.2 bt336.2.2.2.2.2.2.2.2.2 (!bt325.2.2.2.2.2.2.2.2.2) bt313.1 bt313.2.1 bt313.2.2.1 bt313.2.2.2.1 bt313.2.2.2.2.1 bt313.2.2.2.2.2.1 bt313.2.2.2.2.2.2.1 bt313.2.2.2.2.2.2.2.1 bt313.2.2.2.2.2.2.2.2.1 bt325.1 bt325.2.1 bt325.2.2.1 bt325.2.2.2.1 bt325.2.2.2.2.1 bt325.2.2.2.2.2.1 bt325.2.2.2.2.2.2.1 bt325.2.2.2.2.2.2.2.1 bt325.2.2.2.2.2.2.2.2.1 bt336.1 bt336.2.1 bt336.2.2.1 bt336.2.2.2.1 bt336.2.2.2.2.1 bt336.2.2.2.2.2.1 bt336.2.2.2.2.2.2.1 bt336.2.2.2.2.2.2.2.1 bt336.2.2.2.2.2.2.2.2.1)) else (laws_FnFixPlace.j0 k bt313.2.2.2.2.2.2.2.2.2.1 bt313.2.2.2.2.2.2.2.2.2.2 bt325.2.2.2.2.2.2.2.2.2 bt336.2.2.2.2.2.2.2.2.2 true bt313.1 bt313.2.1 bt313.2.2.1 bt313.2.2.2.1 bt313.2.2.2.2.1 bt313.2.2.2.2.2.1 bt313.2.2.2.2.2.2.1 bt313.2.2.2.2.2.2.2.1 bt313.2.2.2.2.2.2.2.2.1 bt325.1 bt325.2.1 bt325.2.2.1 bt325.2.2.2.1 bt325.2.2.2.2.1 bt325.2.2.2.2.2.1 bt325.2.2.2.2.2.2.1 bt325.2.2.2.2.2.2.2.1 bt325.2.2.2.2.2.2.2.2.1 bt336.1 bt336.2.1 bt336.2.2.1 bt336.2.2.2.1 bt336.2.2.2.2.1 bt336.2.2.2.2.2.1 bt336.2.2.2.2.2.2.1 bt336.2.2.2.2.2.2.2.1 bt336.2.2.2.2.2.2.2.2.1))))))
theorem laws_FnFixPlace.mono_l : ∀ k, (∀ y0 y1 y2 y3 y4 y5 y6 y7 y8 y9 y10 y11 y12 y13 y14 y15 y16 y17 y18 y19 y20 y21 y22 y23 y24 y25 y26 y27 y28 y29 y30 y31, LeO (laws_FnFixPlace.j0 k y0 y1 y2 y3 y4 y5 y6 y7 y8 y9 y10 y11 y12 y13 y14 y15 y16 y17 y18 y19 y20 y21 y22 y23 y24 y25 y26 y27 y28 y29 y30 y31) (laws_FnFixPlace.j0 (k + 1) y0 y1 y2 y3 y4 y5 y6 y7 y8 y9 y10 y11 y12 y13 y14 y15 y16 y17 y18 y19 y20 y21 y22 y23 y24 y25 y26 y27 y28 y29 y30 y31))
 | 0 => fun _ _ _ _ _ _ _ _ _ _ _ _ _ _ _ _ _ _ _ _ _ _ _ _ _ _ _ _ _ _ _ _ r h => by simp [laws_FnFixPlace.j0] at h
 | k + 1 => by
  have ih0 := laws_FnFixPlace.mono_l k
  ·
   intro y0 y1 y2 y3 y4 y5 y6 y7 y8 y9 y10 y11 y12 y13 y14 y15 y16 y17 y18 y19 y20 y21 y22 y23 y24 y25 y26 y27 y28 y29 y30 y31
   unfold laws_FnFixPlace.j0
   repeat' first
   | (with_reducible exact ih0 _ _ _ _ _ _ _ _ _ _ _ _ _ _ _ _ _ _ _ _ _ _ _ _ _ _ _ _ _ _ _ _)
   | (with_reducible exact impl_FixPlace.mono _ _ _ _ _ _ _ _ _ _ _ _)
   | (with_reducible exact impl_PlaceRect.mono _ _ _ _ _ _ _ _ _ _ _ _)
   | (with_reducible exact spec_DrawFixPlace.mono _ _)
   | (with_reducible exact spec_FixPlace.mono _ _ _ _ _ _ _ _ _ _ _ _)
   | (with_reducible exact LeO.refl _)
   | (with_reducible exact LeO.none _)
   | (with_reducible refine LeO.ite ?_ ?_)
   | (with_reducible refine LeO.bind ?_ (fun _ => ?_))
   | exact ih0 _ _ _ _ _ _ _ _ _ _ _ _ _ _ _ _ _ _ _ _ _ _ _ _ _ _ _ _ _ _ _ _
   | exact impl_FixPlace.mono _ _ _ _ _ _ _ _ _ _ _ _
   | exact impl_PlaceRect.mono _ _ _ _ _ _ _ _ _ _ _ _
   | exact spec_DrawFixPlace.mono _ _
   | exact spec_FixPlace.mono _ _ _ _ _ _ _ _ _ _ _ _
   | exact LeO.none _
   | refine LeO.ite ?_ ?_
   | refine LeO.bind ?_ (fun _ => ?_)
theorem laws_FnFixPlace.mono : ∀ a0 k, LeO (laws_FnFixPlace.f k a0) (laws_FnFixPlace.f (k + 1) a0) := by
 intro a0 k
 have ih0 := laws_FnFixPlace.mono_l k
 unfold laws_FnFixPlace.f
 repeat' first
   | (with_reducible exact ih0 _ _ _ _ _ _ _ _ _ _ _ _ _ _ _ _ _ _ _ _ _ _ _ _ _ _ _ _ _ _ _ _)
   | (with_reducible exact impl_FixPlace.mono _ _ _ _ _ _ _ _ _ _ _ _)
   | (with_reducible exact impl_PlaceRect.mono _ _ _ _ _ _ _ _ _ _ _ _)
   | (with_reducible exact spec_DrawFixPlace.mono _ _)
   | (with_reducible exact spec_FixPlace.mono _ _ _ _ _ _ _ _ _ _ _ _)
   | (with_reducible exact LeO.refl _)
   | (with_reducible exact LeO.none _)
   | (with_reducible refine LeO.ite ?_ ?_)
   | (with_reducible refine LeO.bind ?_ (fun _ => ?_))
   | exact ih0 _ _ _ _ _ _ _ _ _ _ _ _ _ _ _ _ _ _ _ _ _ _ _ _ _ _ _ _ _ _ _ _
   | exact impl_FixPlace.mono _ _ _ _ _ _ _ _ _ _ _ _
   | exact impl_PlaceRect.mono _ _ _ _ _ _ _ _ _ _ _ _
   | exact spec_DrawFixPlace.mono _ _
   | exact spec_FixPlace.mono _ _ _ _ _ _ _ _ _ _ _ _
   | exact LeO.none _
   | refine LeO.ite ?_ ?_
   | refine LeO.bind ?_ (fun _ => ?_)
set_option maxHeartbeats 8000000 in
set_option maxRecDepth 100000 in
theorem laws_FnFixPlace.calls (k : Nat) (A0 : Option Addr) (c0 : Nat) (l0 : List Int) (r : Bool) (w : World) (hr0 : Kd.C (Kd.int .u8) w A0 l0.length l0) (hc0 : l0.length ≤ c0) (h : laws_FnFixPlace.f k l0 = some r) (hr : r = true) :
  Calls Try.prog 7 #[.slice A0 l0.length c0] w fun e w' => e = .returned (.bool r) ∧ Below w.heap.size w w' := by
 have HR := Aside0.mk hr
 clear hr
 have hu24 := Try.underlying24
 have hu31 := Try.underlying31
 have HR0 := Aside0.mk hr0
 have HC0 := Aside0.mk hc0
 clear hr0 hc0
 have HB := Aside0.mk (Below.refl w.heap.size w)
 have H : (if (l0.length : Int) > 1048576 then (some true) else ((spec_DrawFixPlace.f k l0).bind fun bt313 => ((impl_FixPlace.f k bt313.1 bt313.2.1 bt313.2.2.1 bt313.2.2.2.1 bt313.2.2.2.2.1 bt313.2.2.2.2.2.1 bt313.2.2.2.2.2.2.1 bt313.2.2.2.2.2.2.2.1 bt313.2.2.2.2.2.2.2.2.1 bt313.2.2.2.2.2.2.2.2.2.1 bt313.2.2.2.2.2.2.2.2.2.2).bind fun bt325 => ((spec_FixPlace.f k bt313.1 bt313.2.1 bt313.2.2.1 bt313.2.2.2.1 bt313.2.2.2.2.1 bt313.2.2.2.2.2.1 bt313.2.2.2.2.2.2.1 bt313.2.2.2.2.2.2.2.1 bt313.2.2.2.2.2.2.2.2.1 bt313.2.2.2.2.2.2.2.2.2.1 bt313.2.2.2.2.2.2.2.2.2.2).bind fun bt336 => ((laws_equalPlace.f bt325.1 bt325.2.1 bt325.2.2.1 bt325.2.2.2.1 bt325.2.2.2.2.1 bt325.2.2.2.2.2.1 bt325.2.2.2.2.2.2.1 bt325.2.2.2.2.2.2.2.1 bt325.2.2.2.2.2.2.2.2.1 bt336.1 bt336.2.1 bt336.2.2.1 bt336.2.2.2.1 bt336.2.2.2.2.1 bt336.2.2.2.2.2.1 bt336.2.2.2.2.2.2.1 bt336.2.2.2.2.2.2.2.1 bt336.2.2.2.2.2.2.2.2.1).bind fun t347 => (if t347 = true then (if (bt325.2.2.2.2.2.2.2.2.2 != bt336.2.2.2.2.2.2.2.2.2) = true then (laws_FnFixPlace.j0 k bt313.2.2.2.2.2.2.2.2.2.1 bt313.2.2.2.2.2.2.2.2.2.2 bt325.2.2.2.2.2.2.2.2.2 bt336.2.2.2.2.2.2.2.2.2 true bt313.1 bt313.2.1 bt313.2.2.1 bt313.2.2.2.1 bt313.2.2.2.2.1 bt313.2.2.2.2.2.1 bt313.2.2.2.2.2.2.1 bt313.2.2.2.2.2.2.2.1 bt313.2.2.2.2.2.2.2.2.1 bt325.1 bt325.2.1 bt325.2.2.1 bt325.2.2.2.1 bt325.2.2.2.2.1 bt325.2.2.2.2.2.1 bt325.2.2.2.2.2.2.1 bt325.2.2.2.2.2.2.2.1 bt325.2.2.2.2.2.2.2.2.1 bt336.1 bt336.2.1 bt336.2.2.1 bt336.2.2.2.1 bt336.2.2.2.2.1 bt336.2.2.2.2.2.1 bt336.2.2.2.2.2.2.1 bt336.2.2.2.2.2.2.2.1 bt336.2.2.2.2.2.2.2.2.1) else (laws_FnFixPlace.j0 k bt313.2.2.2.2.2.2.2.2.2.1 bt313.2.2.2.2.2.2.2.2.2.2 bt325.2.2.2.2.2.2.2.2.2 bt336.2.2.2.2.2.2.2.2.2 (!bt325.2.2.2.2.2.2.2.2.2) bt313.1 bt313.2.1 bt313.2.2.1 bt313.2.2.2.1 bt313.2.2.2.2.1 bt313.2.2.2.2.2.1 bt313.2.2.2.2.2.2.1 bt313.2.2.2.2.2.2.2.1 bt313.2.2.2.2.2.2.2.2.1 bt325.1 bt325.2.1 bt325.2.2.1 bt325.2.2.2.1 bt325.2.2.2.2.1 bt325.2.2.2.2.2.1 bt325.2.2.2.2.2.2.1 bt325.2.2.2.2.2.2.2.1 bt325.2.2.2.2.2.2.2.2.1 bt336.1 bt336.2.1 bt336.2.2.1 bt336.2.2.2.1 bt336.2.2.2.2.1 bt336.2.2.2.2.2.1 bt336.2.2.2.2.2.2.1 bt336.2.2.2.2.2.2.2.1 bt336.2.2.2.2.2.2.2.2.1)) else (laws_FnFixPlace.j0 k bt313.2.2.2.2.2.2.2.2.2.1 bt313.2.2.2.2.2.2.2.2.2.2 bt325.2.2.2.2.2.2.2.2.2 bt336.2.2.2.2.2.2.2.2.2 true bt313.1 bt313.2.1 bt313.2.2.1 bt313.2.2.2.1 bt313.2.2.2.2.1 bt313.2.2.2.2.2.1 bt313.2.2.2.2.2.2.1 bt313.2.2.2.2.2.2.2.1 bt313.2.2.2.2.2.2.2.2.1 bt325.1 bt325.2.1 bt325.2.2.1 bt325.2.2.2.1 bt325.2.2.2.2.1 bt325.2.2.2.2.2.1 bt325.2.2.2.2.2.2.1 bt325.2.2.2.2.2.2.2.1 bt325.2.2.2.2.2.2.2.2.1 bt336.1 bt336.2.1 bt336.2.2.1 bt336.2.2.2.1 bt336.2.2.2.2.1 bt336.2.2.2.2.2.1 bt336.2.2.2.2.2.2.1 bt336.2.2.2.2.2.2.2.1 bt336.2.2.2.2.2.2.2.2.1))))))) = some r := h
 clear h
 by_cases c2 : (l0.length : Int) > 1048576
 ·
  rw [if_pos c2] at H
  have c2b0 : decide (1048576 < (l0.length : Int)) = true := decide_eq_true c2
  have c2b1 : decide (1048576 < l0.length) = true := decide_eq_true (by omega)
  clear c2
  obtain rfl := Option.some.inj H
  go_enter Try.func7, Try.ntmps7
  go_wp2
  go_ret
  exact ⟨by first | rfl | (simp [errW_none, errW_some] <;> rfl) | (simp [*, errW_none, errW_some] <;> rfl), by repeat (first | (with_reducible first | exact HB.out | apply below_alloc | apply pw_below_drewN | apply below_drew1) | exact HB.out)⟩
 ·
  rw [if_neg c2] at H
  have c2b0 : decide (1048576 < (l0.length : Int)) = false := decide_eq_false c2
  have c2b1 : decide (1048576 < l0.length) = false := decide_eq_false (by omega)
  clear c2
  replace H := Option.bind_eq_some_iff.mp H
  obtain ⟨⟨t313, t314, t315, t316, t317, t318, t319, t320, t321, t322, t323⟩, A30, H⟩ := H
  replace H : ((impl_FixPlace.f k t313 t314 t315 t316 t317 t318 t319 t320 t321 t322 t323).bind fun bt325 => ((spec_FixPlace.f k t313 t314 t315 t316 t317 t318 t319 t320 t321 t322 t323).bind fun bt336 => ((laws_equalPlace.f bt325.1 bt325.2.1 bt325.2.2.1 bt325.2.2.2.1 bt325.2.2.2.2.1 bt325.2.2.2.2.2.1 bt325.2.2.2.2.2.2.1 bt325.2.2.2.2.2.2.2.1 bt325.2.2.2.2.2.2.2.2.1 bt336.1 bt336.2.1 bt336.2.2.1 bt336.2.2.2.1 bt336.2.2.2.2.1 bt336.2.2.2.2.2.1 bt336.2.2.2.2.2.2.1 bt336.2.2.2.2.2.2.2.1 bt336.2.2.2.2.2.2.2.2.1).bind fun t347 => (if t347 = true then (if (bt325.2.2.2.2.2.2.2.2.2 != bt336.2.2.2.2.2.2.2.2.2) = true then (laws_FnFixPlace.j0 k t322 t323 bt325.2.2.2.2.2.2.2.2.2 bt336.2.2.2.2.2.2.2.2.2 true t313 t314 t315 t316 t317 t318 t319 t320 t321 bt325.1 bt325.2.1 bt325.2.2.1 bt325.2.2.2.1 bt325.2.2.2.2.1 bt325.2.2.2.2.2.1 bt325.2.2.2.2.2.2.1 bt325.2.2.2.2.2.2.2.1 bt325.2.2.2.2.2.2.2.2.1 bt336.1 bt336.2.1 bt336.2.2.1 bt336.2.2.2.1 bt336.2.2.2.2.1 bt336.2.2.2.2.2.1 bt336.2.2.2.2.2.2.1 bt336.2.2.2.2.2.2.2.1 bt336.2.2.2.2.2.2.2.2.1) else (laws_FnFixPlace.j0 k t322 t323 bt325.2.2.2.2.2.2.2.2.2 bt336.2.2.2.2.2.2.2.2.2 (!bt325.2.2.2.2.2.2.2.2.2) t313 t314 t315 t316 t317 t318 t319 t320 t321 bt325.1 bt325.2.1 bt325.2.2.1 bt325.2.2.2.1 bt325.2.2.2.2.1 bt325.2.2.2.2.2.1 bt325.2.2.2.2.2.2.1 bt325.2.2.2.2.2.2.2.1 bt325.2.2.2.2.2.2.2.2.1 bt336.1 bt336.2.1 bt336.2.2.1 bt336.2.2.2.1 bt336.2.2.2.2.1 bt336.2.2.2.2.2.1 bt336.2.2.2.2.2.2.1 bt336.2.2.2.2.2.2.2.1 bt336.2.2.2.2.2.2.2.2.1)) else (laws_FnFixPlace.j0 k t322 t323 bt325.2.2.2.2.2.2.2.2.2 bt336.2.2.2.2.2.2.2.2.2 true t313 t314 t315 t316 t317 t318 t319 t320 t321 bt325.1 bt325.2.1 bt325.2.2.1 bt325.2.2.2.1 bt325.2.2.2.2.1 bt325.2.2.2.2.2.1 bt325.2.2.2.2.2.2.1 bt325.2.2.2.2.2.2.2.1 bt325.2.2.2.2.2.2.2.2.1 bt336.1 bt336.2.1 bt336.2.2.1 bt336.2.2.2.1 bt336.2.2.2.2.1 bt336.2.2.2.2.2.1 bt336.2.2.2.2.2.2.1 bt336.2.2.2.2.2.2.2.1 bt336.2.2.2.2.2.2.2.2.1))))) = some r := H
  have A3 := Aside0.mk A30
  clear A30
  replace H := Option.bind_eq_some_iff.mp H
  obtain ⟨⟨t325, t326, t327, t328, t329, t330, t331, t332, t333, t334⟩, A40, H⟩ := H
  replace H : ((spec_FixPlace.f k t313 t314 t315 t316 t317 t318 t319 t320 t321 t322 t323).bind fun bt336 => ((laws_equalPlace.f t325 t326 t327 t328 t329 t330 t331 t332 t333 bt336.1 bt336.2.1 bt336.2.2.1 bt336.2.2.2.1 bt336.2.2.2.2.1 bt336.2.2.2.2.2.1 bt336.2.2.2.2.2.2.1 bt336.2.2.2.2.2.2.2.1 bt336.2.2.2.2.2.2.2.2.1).bind fun t347 => (if t347 = true then (if (t334 != bt336.2.2.2.2.2.2.2.2.2) = true then (laws_FnFixPlace.j0 k t322 t323 t334 bt336.2.2.2.2.2.2.2.2.2 true t313 t314 t315 t316 t317 t318 t319 t320 t321 t325 t326 t327 t328 t329 t330 t331 t332 t333 bt336.1 bt336.2.1 bt336.2.2.1 bt336.2.2.2.1 bt336.2.2.2.2.1 bt336.2.2.2.2.2.1 bt336.2.2.2.2.2.2.1 bt336.2.2.2.2.2.2.2.1 bt336.2.2.2.2.2.2.2.2.1) else (laws_FnFixPlace.j0 k t322 t323 t334 bt336.2.2.2.2.2.2.2.2.2 (!t334) t313 t314 t315 t316 t317 t318 t319 t320 t321 t325 t326 t327 t328 t329 t330 t331 t332 t333 bt336.1 bt336.2.1 bt336.2.2.1 bt336.2.2.2.1 bt336.2.2.2.2.1 bt336.2.2.2.2.2.1 bt336.2.2.2.2.2.2.1 bt336.2.2.2.2.2.2.2.1 bt336.2.2.2.2.2.2.2.2.1)) else (laws_FnFixPlace.j0 k t322 t323 t334 bt336.2.2.2.2.2.2.2.2.2 true t313 t314 t315 t316 t317 t318 t319 t320 t321 t325 t326 t327 t328 t329 t330 t331 t332 t333 bt336.1 bt336.2.1 bt336.2.2.1 bt336.2.2.2.1 bt336.2.2.2.2.1 bt336.2.2.2.2.2.1 bt336.2.2.2.2.2.2.1 bt336.2.2.2.2.2.2.2.1 bt336.2.2.2.2.2.2.2.2.1)))) = some r := H
  have A4 := Aside0.mk A40
  clear A40
  replace H := Option.bind_eq_some_iff.mp H
  obtain ⟨⟨t336, t337, t338, t339, t340, t341, t342, t343, t344, t345⟩, A50, H⟩ := H
  replace H : ((laws_equalPlace.f t325 t326 t327 t328 t329 t330 t331 t332 t333 t336 t337 t338 t339 t340 t341 t342 t343 t344).bind fun t347 => (if t347 = true then (if (t334 != t345) = true then (laws_FnFixPlace.j0 k t322 t323 t334 t345 true t313 t314 t315 t316 t317 t318 t319 t320 t321 t325 t326 t327 t328 t329 t330 t331 t332 t333 t336 t337 t338 t339 t340 t341 t342 t343 t344) else (laws_FnFixPlace.j0 k t322 t323 t334 t345 (!t334) t313 t314 t315 t316 t317 t318 t319 t320 t321 t325 t326 t327 t328 t329 t330 t331 t332 t333 t336 t337 t338 t339 t340 t341 t342 t343 t344)) else (laws_FnFixPlace.j0 k t322 t323 t334 t345 true t313 t314 t315 t316 t317 t318 t319 t320 t321 t325 t326 t327 t328 t329 t330 t331 t332 t333 t336 t337 t338 t339 t340 t341 t342 t343 t344))) = some r := H
  have A5 := Aside0.mk A50
  clear A50
  have HC6 := Aside0.mk H
  clear H
  go_enter Try.func7, Try.ntmps7
  go_upto_region 6 with (first | ((with_reducible refine gate_callee (f := 34) rfl ?_); refine goesL_ (some 18) rfl rfl Try.func34 (by kernel_rfl) rfl #[.slice A0 l0.length c0] rfl (by (try simp only [List.map_toArray, List.map_cons, List.map_nil]); first | done | rfl | (simp only [List.length_drop, List.length_take]; rfl)) ?_; (with_reducible refine (spec_DrawFixPlace.calls k _ _ l0 t313 t314 t315 t316 t317 t318 t319 t320 t321 t322 t323 _ ?side1 ?side2 A3.out).mono ?_); (case side1 => repeat (first | exact HR0.out | (with_reducible refine Kd.C_alloc ?_ _) | (with_reducible refine Kd.C_drewN ?_ _) | (with_reducible refine Kd.C_drew ?_))); (case side2 => exact HC0.out); rintro e w7 ⟨rfl, hb⟩; refine ⟨_, rfl, ?_⟩; have n0_ := Aside0.mk (below_step (by repeat (first | (with_reducible first | exact HB.out | apply below_alloc | apply pw_below_drewN | apply below_drew1) | exact HB.out)) hb); clear HB; have HB := n0_; clear n0_; (try clear hb); (try clear hb2); (try clear hk); (try clear hi)) | ((with_reducible refine gate_dst (N := 3) rfl ?_); refine box_event ?hg (N := 3) ?hd (cs := #[.int .i64 0, .int .i64 0, .int .i64 0, .int .i64 0, .int .i64 0, .int .i64 0, .int .i64 0, .int .i64 0, .int .i64 0]) (t := 24) ?hr ?_; (case hd => rfl); (case hg => rfl); (case hr => first | (go_simp; done) | (go_simp; rfl)); intro gb324 hg w8 hbox hb; have n0_ := Aside0.mk (below_step (by repeat (first | (with_reducible first | exact HB.out | apply below_alloc | apply pw_below_drewN | apply below_drew1) | exact HB.out)) hb); have n1_ := Aside0.mk (hbox); have n2_ := Aside0.mk ((by rw [hg]; exact (below_size (by repeat (first | (with_reducible first | exact HB.out | apply below_alloc | apply pw_below_drewN | apply below_drew1) | exact HB.out))) : w.heap.size ≤ gb324)); have n3_ := Aside0.mk ((by rw [hg]; exact (below_size (by repeat (first | (with_reducible first | exact HB.out | apply below_alloc | apply pw_below_drewN | apply below_drew1) | exact HB.out))) : w.heap.size ≤ gb324)); clear HB; have HB := n0_; have BK324 := n1_; have GW324 := n2_; have GE324 := n3_; clear n0_ n1_ n2_ n3_; clear hb hbox hg; have hcz9_0 : w8.cell? ⟨gb324, 0, none⟩ = some (.int .i64 0) := (blk_cell BK324.out 0).trans rfl; have hcz9_1 : w8.cell? ⟨gb324, 1, none⟩ = some (.int .i64 0) := (blk_cell BK324.out 1).trans rfl; have hcz9_2 : w8.cell? ⟨gb324, 2, none⟩ = some (.int .i64 0) := (blk_cell BK324.out 2).trans rfl; have hcz9_3 : w8.cell? ⟨gb324, 3, none⟩ = some (.int .i64 0) := (blk_cell BK324.out 3).trans rfl; have hcz9_4 : w8.cell? ⟨gb324, 4, none⟩ = some (.int .i64 0) := (blk_cell BK324.out 4).trans rfl; have hcz9_5 : w8.cell? ⟨gb324, 5, none⟩ = some (.int .i64 0) := (blk_cell BK324.out 5).trans rfl; have hcz9_6 : w8.cell? ⟨gb324, 6, none⟩ = some (.int .i64 0) := (blk_cell BK324.out 6).trans rfl; have hcz9_7 : w8.cell? ⟨gb324, 7, none⟩ = some (.int .i64 0) := (blk_cell BK324.out 7).trans rfl; have hcz9_8 : w8.cell? ⟨gb324, 8, none⟩ = some (.int .i64 0) := (blk_cell BK324.out 8).trans rfl; have hfz9_0 := blk_frozen BK324.out 0; have hfz9_1 := blk_frozen BK324.out 1; have hfz9_2 := blk_frozen BK324.out 2; have hfz9_3 := blk_frozen BK324.out 3; have hfz9_4 := blk_frozen BK324.out 4; have hfz9_5 := blk_frozen BK324.out 5; have hfz9_6 := blk_frozen BK324.out 6; have hfz9_7 := blk_frozen BK324.out 7; have hfz9_8 := blk_frozen BK324.out 8) | ((with_reducible refine gate_callee (f := 35) rfl ?_); refine goesL_ (some 26) rfl rfl Try.func35 (by kernel_rfl) rfl #[.agg #[.int .i64 t313, .int .i64 t314, .int .i64 t315, .int .i64 t316, .int .i64 t317, .int .i64 t318, .int .i64 t319, .int .i64 t320, .int .i64 t321], .int .i64 t322, .int .i64 t323] rfl (by (try simp only [List.map_toArray, List.map_cons, List.map_nil]); first | done | rfl | (simp only [List.length_drop, List.length_take]; rfl)) ?_; (with_reducible refine (impl_FixPlace.calls k t313 t314 t315 t316 t317 t318 t319 t320 t321 t322 t323 t325 t326 t327 t328 t329 t330 t331 t332 t333 t334 _ A4.out).mono ?_); rintro e w10 ⟨rfl, hb⟩; refine ⟨_, rfl, ?_⟩; have n0_ := Aside0.mk (blk_below (g := gb324) (o := .cells #[.int .i64 t313, .int .i64 t314, .int .i64 t315, .int .i64 t316, .int .i64 t317, .int .i64 t318, .int .i64 t319, .int .i64 t320, .int .i64 t321] 24 (0, 0)) (by (with_reducible repeat (first | refine blk_drewN ?_ _ | refine blk_drew ?_ | refine blk_alloc ?_ _)); refine blk_put (cs := #[.int .i64 t313, .int .i64 t314, .int .i64 t315, .int .i64 t316, .int .i64 t317, .int .i64 t318, .int .i64 t319, .int .i64 t320, .int .i64 0]) ?_ 8 _ rfl; (with_reducible repeat (first | refine blk_drewN ?_ _ | refine blk_drew ?_ | refine blk_alloc ?_ _)); refine blk_put (cs := #[.int .i64 t313, .int .i64 t314, .int .i64 t315, .int .i64 t316, .int .i64 t317, .int .i64 t318, .int .i64 t319, .int .i64 0, .int .i64 0]) ?_ 7 _ rfl; (with_reducible repeat (first | refine blk_drewN ?_ _ | refine blk_drew ?_ | refine blk_alloc ?_ _)); refine blk_put (cs := #[.int .i64 t313, .int .i64 t314, .int .i64 t315, .int .i64 t316, .int .i64 t317, .int .i64 t318, .int .i64 0, .int .i64 0, .int .i64 0]) ?_ 6 _ rfl; (with_reducible repeat (first | refine blk_drewN ?_ _ | refine blk_drew ?_ | refine blk_alloc ?_ _)); refine blk_put (cs := #[.int .i64 t313, .int .i64 t314, .int .i64 t315, .int .i64 t316, .int .i64 t317, .int .i64 0, .int .i64 0, .int .i64 0, .int .i64 0]) ?_ 5 _ rfl; (with_reducible repeat (first | refine blk_drewN ?_ _ | refine blk_drew ?_ | refine blk_alloc ?_ _)); refine blk_put (cs := #[.int .i64 t313, .int .i64 t314, .int .i64 t315, .int .i64 t316, .int .i64 0, .int .i64 0, .int .i64 0, .int .i64 0, .int .i64 0]) ?_ 4 _ rfl; (with_reducible repeat (first | refine blk_drewN ?_ _ | refine blk_drew ?_ | refine blk_alloc ?_ _)); refine blk_put (cs := #[.int .i64 t313, .int .i64 t314, .int .i64 t315, .int .i64 0, .int .i64 0, .int .i64 0, .int .i64 0, .int .i64 0, .int .i64 0]) ?_ 3 _ rfl; (with_reducible repeat (first | refine blk_drewN ?_ _ | refine blk_drew ?_ | refine blk_alloc ?_ _)); refine blk_put (cs := #[.int .i64 t313, .int .i64 t314, .int .i64 0, .int .i64 0, .int .i64 0, .int .i64 0, .int .i64 0, .int .i64 0, .int .i64 0]) ?_ 2 _ rfl; (with_reducible repeat (first | refine blk_drewN ?_ _ | refine blk_drew ?_ | refine blk_alloc ?_ _)); refine blk_put (cs := #[.int .i64 t313, .int .i64 0, .int .i64 0, .int .i64 0, .int .i64 0, .int .i64 0, .int .i64 0, .int .i64 0, .int .i64 0]) ?_ 1 _ rfl; (with_reducible repeat (first | refine blk_drewN ?_ _ | refine blk_drew ?_ | refine blk_alloc ?_ _)); refine blk_put (cs := #[.int .i64 0, .int .i64 0, .int .i64 0, .int .i64 0, .int .i64 0, .int .i64 0, .int .i64 0, .int .i64 0, .int .i64 0]) ?_ 0 _ rfl; (with_reducible repeat (first | refine blk_drewN ?_ _ | refine blk_drew ?_ | refine blk_alloc ?_ _)); exact BK324.out) hb); have n1_ := Aside0.mk (below_step (by repeat (first | (with_reducible first | exact HB.out | apply below_alloc | apply pw_below_drewN | apply below_drew1 | refine below_set ?_ GE324.out) | exact HB.out)) hb); clear BK324; clear HB; have BK324 := n0_; have HB := n1_; clear n0_ n1_; (try clear hb); (try clear hb2); (try clear hk); (try clear hi)) | ((with_reducible refine gate_dst (N := 6) rfl ?_); refine box_event ?hg (N := 6) ?hd (cs := #[.int .i64 0, .int .i64 0, .int .i64 0, .int .i64 0, .int .i64 0, .int .i64 0, .int .i64 0, .int .i64 0, .int .i64 0]) (t := 24) ?hr ?_; (case hd => rfl); (case hg => rfl); (case hr => first | (go_simp; done) | (go_simp; rfl)); intro gb335 hg w11 hbox hb; have n0_ := Aside0.mk (blk_below (g := gb324) (o := .cells #[.int .i64 t313, .int .i64 t314, .int .i64 t315, .int .i64 t316, .int .i64 t317, .int .i64 t318, .int .i64 t319, .int .i64 t320, .int .i64 t321] 24 (0, 0)) (by (with_reducible repeat (first | refine blk_drewN ?_ _ | refine blk_drew ?_ | refine blk_alloc ?_ _)); exact BK324.out) hb); have n1_ := Aside0.mk (below_step (by repeat (first | (with_reducible first | exact HB.out | apply below_alloc | apply pw_below_drewN | apply below_drew1 | refine below_set ?_ GE324.out) | exact HB.out)) hb); have n2_ := Aside0.mk (hbox); have n3_ := Aside0.mk ((by rw [hg]; exact (below_size (by repeat (first | (with_reducible first | exact HB.out | apply below_alloc | apply pw_below_drewN | apply below_drew1 | refine below_set ?_ GE324.out) | exact HB.out))) : w.heap.size ≤ gb335)); have n4_ := Aside0.mk ((by rw [hg]; exact (below_size (by repeat (first | (with_reducible first | exact HB.out | apply below_alloc | apply pw_below_drewN | apply below_drew1 | refine below_set ?_ GE324.out) | exact HB.out))) : w.heap.size ≤ gb335)); have n5_ := Aside0.mk ((by rw [hg]; exact Nat.ne_of_lt (blk_lt (g := gb324) (o := .cells #[.int .i64 t313, .int .i64 t314, .int .i64 t315, .int .i64 t316, .int .i64 t317, .int .i64 t318, .int .i64 t319, .int .i64 t320, .int .i64 t321] 24 (0, 0)) (by (with_reducible repeat (first | refine blk_drewN ?_ _ | refine blk_drew ?_ | refine blk_alloc ?_ _)); exact BK324.out)) : gb324 ≠ gb335)); have n6_ := Aside0.mk ((by rw [hg]; exact Nat.ne_of_gt (blk_lt (g := gb324) (o := .cells #[.int .i64 t313, .int .i64 t314, .int .i64 t315, .int .i64 t316, .int .i64 t317, .int .i64 t318, .int .i64 t319, .int .i64 t320, .int .i64 t321] 24 (0, 0)) (by (with_reducible repeat (first | refine blk_drewN ?_ _ | refine blk_drew ?_ | refine blk_alloc ?_ _)); exact BK324.out)) : gb335 ≠ gb324)); clear BK324; clear HB; have BK324 := n0_; have HB := n1_; have BK335 := n2_; have GW335 := n3_; have GE335 := n4_; have NB324_335 := n5_; have NB335_324 := n6_; clear n0_ n1_ n2_ n3_ n4_ n5_ n6_; clear hb hbox hg; have hnb12 := NB335_324.out; have hnc12 := NB324_335.out; have hcz13_0 : w11.cell? ⟨gb335, 0, none⟩ = some (.int .i64 0) := (blk_cell BK335.out 0).trans rfl; have hcz13_1 : w11.cell? ⟨gb335, 1, none⟩ = some (.int .i64 0) := (blk_cell BK335.out 1).trans rfl; have hcz13_2 : w11.cell? ⟨gb335, 2, none⟩ = some (.int .i64 0) := (blk_cell BK335.out 2).trans rfl; have hcz13_3 : w11.cell? ⟨gb335, 3, none⟩ = some (.int .i64 0) := (blk_cell BK335.out 3).trans rfl; have hcz13_4 : w11.cell? ⟨gb335, 4, none⟩ = some (.int .i64 0) := (blk_cell BK335.out 4).trans rfl; have hcz13_5 : w11.cell? ⟨gb335, 5, none⟩ = some (.int .i64 0) := (blk_cell BK335.out 5).trans rfl; have hcz13_6 : w11.cell? ⟨gb335, 6, none⟩ = some (.int .i64 0) := (blk_cell BK335.out 6).trans rfl; have hcz13_7 : w11.cell? ⟨gb335, 7, none⟩ = some (.int .i64 0) := (blk_cell BK335.out 7).trans rfl; have hcz13_8 : w11.cell? ⟨gb335, 8, none⟩ = some (.int .i64 0) := (blk_cell BK335.out 8).trans rfl; have hfz13_0 := blk_frozen BK335.out 0; have hfz13_1 := blk_frozen BK335.out 1; have hfz13_2 := blk_frozen BK335.out 2; have hfz13_3 := blk_frozen BK335.out 3; have hfz13_4 := blk_frozen BK335.out 4; have hfz13_5 := blk_frozen BK335.out 5; have hfz13_6 := blk_frozen BK335.out 6; have hfz13_7 := blk_frozen BK335.out 7; have hfz13_8 := blk_frozen BK335.out 8; have hcz14_0 : w11.cell? ⟨gb324, 0, none⟩ = some (.int .i64 t313) := (blk_cell BK324.out 0).trans rfl; have hcz14_1 : w11.cell? ⟨gb324, 1, none⟩ = some (.int .i64 t314) := (blk_cell BK324.out 1).trans rfl; have hcz14_2 : w11.cell? ⟨gb324, 2, none⟩ = some (.int .i64 t315) := (blk_cell BK324.out 2).trans rfl; have hcz14_3 : w11.cell? ⟨gb324, 3, none⟩ = some (.int .i64 t316) := (blk_cell BK324.out 3).trans rfl; have hcz14_4 : w11.cell? ⟨gb324, 4, none⟩ = some (.int .i64 t317) := (blk_cell BK324.out 4).trans rfl; have hcz14_5 : w11.cell? ⟨gb324, 5, none⟩ = some (.int .i64 t318) := (blk_cell BK324.out 5).trans rfl; have hcz14_6 : w11.cell? ⟨gb324, 6, none⟩ = some (.int .i64 t319) := (blk_cell BK324.out 6).trans rfl; have hcz14_7 : w11.cell? ⟨gb324, 7, none⟩ = some (.int .i64 t320) := (blk_cell BK324.out 7).trans rfl; have hcz14_8 : w11.cell? ⟨gb324, 8, none⟩ = some (.int .i64 t321) := (blk_cell BK324.out 8).trans rfl; have hfz14_0 := blk_frozen BK324.out 0; have hfz14_1 := blk_frozen BK324.out 1; have hfz14_2 := blk_frozen BK324.out 2; have hfz14_3 := blk_frozen BK324.out 3; have hfz14_4 := blk_frozen BK324.out 4; have hfz14_5 := blk_frozen BK324.out 5; have hfz14_6 := blk_frozen BK324.out 6; have hfz14_7 := blk_frozen BK324.out 7; have hfz14_8 := blk_frozen BK324.out 8) | ((with_reducible refine gate_callee (f := 36) rfl ?_); refine goesL_ (some 33) rfl rfl Try.func36 (by kernel_rfl) rfl #[.agg #[.int .i64 t313, .int .i64 t314, .int .i64 t315, .int .i64 t316, .int .i64 t317, .int .i64 t318, .int .i64 t319, .int .i64 t320, .int .i64 t321], .int .i64 t322, .int .i64 t323] rfl (by (try simp only [List.map_toArray, List.map_cons, List.map_nil]); first | done | rfl | (simp only [List.length_drop, List.length_take]; rfl)) ?_; (with_reducible refine (spec_FixPlace.calls k t313 t314 t315 t316 t317 t318 t319 t320 t321 t322 t323 t336 t337 t338 t339 t340 t341 t342 t343 t344 t345 _ A5.out).mono ?_); rintro e w15 ⟨rfl, hb⟩; refine ⟨_, rfl, ?_⟩; have n0_ := Aside0.mk (blk_below (g := gb324) (o := .cells #[.int .i64 t313, .int .i64 t314, .int .i64 t315, .int .i64 t316, .int .i64 t317, .int .i64 t318, .int .i64 t319, .int .i64 t320, .int .i64 t321] 24 (0, 0)) (by (with_reducible repeat (first | refine blk_drewN ?_ _ | refine blk_drew ?_ | refine blk_alloc ?_ _ | refine blk_far ?_ NB324_335.out _)); exact BK324.out) hb); have n1_ := Aside0.mk (blk_below (g := gb335) (o := .cells #[.int .i64 t325, .int .i64 t326, .int .i64 t327, .int .i64 t328, .int .i64 t329, .int .i64 t330, .int .i64 t331, .int .i64 t332, .int .i64 t333] 24 (0, 0)) (by (with_reducible repeat (first | refine blk_drewN ?_ _ | refine blk_drew ?_ | refine blk_alloc ?_ _)); refine blk_put (cs := #[.int .i64 t325, .int .i64 t326, .int .i64 t327, .int .i64 t328, .int .i64 t329, .int .i64 t330, .int .i64 t331, .int .i64 t332, .int .i64 0]) ?_ 8 _ rfl; (with_reducible repeat (first | refine blk_drewN ?_ _ | refine blk_drew ?_ | refine blk_alloc ?_ _)); refine blk_put (cs := #[.int .i64 t325, .int .i64 t326, .int .i64 t327, .int .i64 t328, .int .i64 t329, .int .i64 t330, .int .i64 t331, .int .i64 0, .int .i64 0]) ?_ 7 _ rfl; (with_reducible repeat (first | refine blk_drewN ?_ _ | refine blk_drew ?_ | refine blk_alloc ?_ _)); refine blk_put (cs := #[.int .i64 t325, .int .i64 t326, .int .i64 t327, .int .i64 t328, .int .i64 t329, .int .i64 t330, .int .i64 0, .int .i64 0, .int .i64 0]) ?_ 6 _ rfl; (with_reducible repeat (first | refine blk_drewN ?_ _ | refine blk_drew ?_ | refine blk_alloc ?_ _)); refine blk_put (cs := #[.int .i64 t325, .int .i64 t326, .int .i64 t327, .int .i64 t328, .int .i64 t329, .int .i64 0, .int .i64 0, .int .i64 0, .int .i64 0]) ?_ 5 _ rfl; (with_reducible repeat (first | refine blk_drewN ?_ _ | refine blk_drew ?_ | refine blk_alloc ?_ _)); refine blk_put (cs := #[.int .i64 t325, .int .i64 t326, .int .i64 t327, .int .i64 t328, .int .i64 0, .int .i64 0, .int .i64 0, .int .i64 0, .int .i64 0]) ?_ 4 _ rfl; (with_reducible repeat (first | refine blk_drewN ?_ _ | refine blk_drew ?_ | refine blk_alloc ?_ _)); refine blk_put (cs := #[.int .i64 t325, .int .i64 t326, .int .i64 t327, .int .i64 0, .int .i64 0, .int .i64 0, .int .i64 0, .int .i64 0, .int .i64 0]) ?_ 3 _ rfl; (with_reducible repeat (first | refine blk_drewN ?_ _ | refine blk_drew ?_ | refine blk_alloc ?_ _)); refine blk_put (cs := #[.int .i64 t325, .int .i64 t326, .int .i64 0, .int .i64 0, .int .i64 0, .int .i64 0, .int .i64 0, .int .i64 0, .int .i64 0]) ?_ 2 _ rfl; (with_reducible repeat (first | refine blk_drewN ?_ _ | refine blk_drew ?_ | refine blk_alloc ?_ _)); refine blk_put (cs := #[.int .i64 t325, .int .i64 0, .int .i64 0, .int .i64 0, .int .i64 0, .int .i64 0, .int .i64 0, .int .i64 0, .int .i64 0]) ?_ 1 _ rfl; (with_reducible repeat (first | refine blk_drewN ?_ _ | refine blk_drew ?_ | refine blk_alloc ?_ _)); refine blk_put (cs := #[.int .i64 0, .int .i64 0, .int .i64 0, .int .i64 0, .int .i64 0, .int .i64 0, .int .i64 0, .int .i64 0, .int .i64 0]) ?_ 0 _ rfl; (with_reducible repeat (first | refine blk_drewN ?_ _ | refine blk_drew ?_ | refine blk_alloc ?_ _)); exact BK335.out) hb); have n2_ := Aside0.mk (below_step (by repeat (first | (with_reducible first | exact HB.out | apply below_alloc | apply pw_below_drewN | apply below_drew1 | refine below_set ?_ GE324.out | refine below_set ?_ GE335.out) | exact HB.out)) hb); clear BK324; clear BK335; clear HB; have BK324 := n0_; have BK335 := n1_; have HB := n2_; clear n0_ n1_ n2_; (try clear hb); (try clear hb2); (try clear hk); (try clear hi)) | ((with_reducible refine gate_dst (N := 8) rfl ?_); refine box_event ?hg (N := 8) ?hd (cs := #[.int .i64 0, .int .i64 0, .int .i64 0, .int .i64 0, .int .i64 0, .int .i64 0, .int .i64 0, .int .i64 0, .int .i64 0]) (t := 24) ?hr ?_; (case hd => rfl); (case hg => rfl); (case hr => first | (go_simp; done) | (go_simp; rfl)); intro gb346 hg w16 hbox hb; have n0_ := Aside0.mk (blk_below (g := gb324) (o := .cells #[.int .i64 t313, .int .i64 t314, .int .i64 t315, .int .i64 t316, .int .i64 t317, .int .i64 t318, .int .i64 t319, .int .i64 t320, .int .i64 t321] 24 (0, 0)) (by (with_reducible repeat (first | refine blk_drewN ?_ _ | refine blk_drew ?_ | refine blk_alloc ?_ _)); exact BK324.out) hb); have n1_ := Aside0.mk (blk_below (g := gb335) (o := .cells #[.int .i64 t325, .int .i64 t326, .int .i64 t327, .int .i64 t328, .int .i64 t329, .int .i64 t330, .int .i64 t331, .int .i64 t332, .int .i64 t333] 24 (0, 0)) (by (with_reducible repeat (first | refine blk_drewN ?_ _ | refine blk_drew ?_ | refine blk_alloc ?_ _)); exact BK335.out) hb); have n2_ := Aside0.mk (below_step (by repeat (first | (with_reducible first | exact HB.out | apply below_alloc | apply pw_below_drewN | apply below_drew1 | refine below_set ?_ GE324.out | refine below_set ?_ GE335.out) | exact HB.out)) hb); have n3_ := Aside0.mk (hbox); have n4_ := Aside0.mk ((by rw [hg]; exact (below_size (by repeat (first | (with_reducible first | exact HB.out | apply below_alloc | apply pw_below_drewN | apply below_drew1 | refine below_set ?_ GE324.out | refine below_set ?_ GE335.out) | exact HB.out))) : w.heap.size ≤ gb346)); have n5_ := Aside0.mk ((by rw [hg]; exact (below_size (by repeat (first | (with_reducible first | exact HB.out | apply below_alloc | apply pw_below_drewN | apply below_drew1 | refine below_set ?_ GE324.out | refine below_set ?_ GE335.out) | exact HB.out))) : w.heap.size ≤ gb346)); have n6_ := Aside0.mk ((by rw [hg]; exact Nat.ne_of_lt (blk_lt (g := gb324) (o := .cells #[.int .i64 t313, .int .i64 t314, .int .i64 t315, .int .i64 t316, .int .i64 t317, .int .i64 t318, .int .i64 t319, .int .i64 t320, .int .i64 t321] 24 (0, 0)) (by (with_reducible repeat (first | refine blk_drewN ?_ _ | refine blk_drew ?_ | refine blk_alloc ?_ _)); exact BK324.out)) : gb324 ≠ gb346)); have n7_ := Aside0.mk ((by rw [hg]; exact Nat.ne_of_gt (blk_lt (g := gb324) (o := .cells #[.int .i64 t313, .int .i64 t314, .int .i64 t315, .int .i64 t316, .int .i64 t317, .int .i64 t318, .int .i64 t319, .int .i64 t320, .int .i64 t321] 24 (0, 0)) (by (with_reducible repeat (first | refine blk_drewN ?_ _ | refine blk_drew ?_ | refine blk_alloc ?_ _)); exact BK324.out)) : gb346 ≠ gb324)); have n8_ := Aside0.mk ((by rw [hg]; exact Nat.ne_of_lt (blk_lt (g := gb335) (o := .cells #[.int .i64 t325, .int .i64 t326, .int .i64 t327, .int .i64 t328, .int .i64 t329, .int .i64 t330, .int .i64 t331, .int .i64 t332, .int .i64 t333] 24 (0, 0)) (by (with_reducible repeat (first | refine blk_drewN ?_ _ | refine blk_drew ?_ | refine blk_alloc ?_ _)); exact BK335.out)) : gb335 ≠ gb346)); have n9_ := Aside0.mk ((by rw [hg]; exact Nat.ne_of_gt (blk_lt (g := gb335) (o := .cells #[.int .i64 t325, .int .i64 t326, .int .i64 t327, .int .i64 t328, .int .i64 t329, .int .i64 t330, .int .i64 t331, .int .i64 t332, .int .i64 t333] 24 (0, 0)) (by (with_reducible repeat (first | refine blk_drewN ?_ _ | refine blk_drew ?_ | refine blk_alloc ?_ _)); exact BK335.out)) : gb346 ≠ gb335)); clear BK324; clear BK335; clear HB; have BK324 := n0_; have BK335 := n1_; have HB := n2_; have BK346 := n3_; have GW346 := n4_; have GE346 := n5_; have NB324_346 := n6_; have NB346_324 := n7_; have NB335_346 := n8_; have NB346_335 := n9_; clear n0_ n1_ n2_ n3_ n4_ n5_ n6_ n7_ n8_ n9_; clear hb hbox hg; have hnb17 := NB346_324.out; have hnc17 := NB324_346.out; have hnb18 := NB346_335.out; have hnc18 := NB335_346.out; have hcz19_0 : w16.cell? ⟨gb346, 0, none⟩ = some (.int .i64 0) := (blk_cell BK346.out 0).trans rfl; have hcz19_1 : w16.cell? ⟨gb346, 1, none⟩ = some (.int .i64 0) := (blk_cell BK346.out 1).trans rfl; have hcz19_2 : w16.cell? ⟨gb346, 2, none⟩ = some (.int .i64 0) := (blk_cell BK346.out 2).trans rfl; have hcz19_3 : w16.cell? ⟨gb346, 3, none⟩ = some (.int .i64 0) := (blk_cell BK346.out 3).trans rfl; have hcz19_4 : w16.cell? ⟨gb346, 4, none⟩ = some (.int .i64 0) := (blk_cell BK346.out 4).trans rfl; have hcz19_5 : w16.cell? ⟨gb346, 5, none⟩ = some (.int .i64 0) := (blk_cell BK346.out 5).trans rfl; have hcz19_6 : w16.cell? ⟨gb346, 6, none⟩ = some (.int .i64 0) := (blk_cell BK346.out 6).trans rfl; have hcz19_7 : w16.cell? ⟨gb346, 7, none⟩ = some (.int .i64 0) := (blk_cell BK346.out 7).trans rfl; have hcz19_8 : w16.cell? ⟨gb346, 8, none⟩ = some (.int .i64 0) := (blk_cell BK346.out 8).trans rfl; have hfz19_0 := blk_frozen BK346.out 0; have hfz19_1 := blk_frozen BK346.out 1; have hfz19_2 := blk_frozen BK346.out 2; have hfz19_3 := blk_frozen BK346.out 3; have hfz19_4 := blk_frozen BK346.out 4; have hfz19_5 := blk_frozen BK346.out 5; have hfz19_6 := blk_frozen BK346.out 6; have hfz19_7 := blk_frozen BK346.out 7; have hfz19_8 := blk_frozen BK346.out 8))
  (try simp only [Act.put, List.setIfInBounds_toArray, List.set_cons_zero, List.set_cons_succ])
  go_cut [48] (fun v48 wc => ∃ (kq : Nat) (x48_5 : Bool), v48 = .bool x48_5 ∧ Aside0 (laws_FnFixPlace.j0 kq t322 t323 t334 t345 x48_5 t313 t314 t315 t316 t317 t318 t319 t320 t321 t325 t326 t327 t328 t329 t330 t331 t332 t333 t336 t337 t338 t339 t340 t341 t342 t343 t344 = some r) ∧ Aside0 (kq ≤ k) ∧ Aside0 (wc.heap[gb324]? = some (.cells #[.int .i64 t313, .int .i64 t314, .int .i64 t315, .int .i64 t316, .int .i64 t317, .int .i64 t318, .int .i64 t319, .int .i64 t320, .int .i64 t321] 24 (0, 0))) ∧ Aside0 (wc.heap[gb335]? = some (.cells #[.int .i64 t325, .int .i64 t326, .int .i64 t327, .int .i64 t328, .int .i64 t329, .int .i64 t330, .int .i64 t331, .int .i64 t332, .int .i64 t333] 24 (0, 0))) ∧ Aside0 (wc.heap[gb346]? = some (.cells #[.int .i64 t336, .int .i64 t337, .int .i64 t338, .int .i64 t339, .int .i64 t340, .int .i64 t341, .int .i64 t342, .int .i64 t343, .int .i64 t344] 24 (0, 0))) ∧ Aside0 (Below w.heap.size w wc))
  case first =>
   have H := HC6.out
   clear HC6
   replace H := Option.bind_eq_some_iff.mp H
   obtain ⟨t347, A200, H⟩ := H
   replace H : (if t347 = true then (if (t334 != t345) = true then (laws_FnFixPlace.j0 k t322 t323 t334 t345 true t313 t314 t315 t316 t317 t318 t319 t320 t321 t325 t326 t327 t328 t329 t330 t331 t332 t333 t336 t337 t338 t339 t340 t341 t342 t343 t344) else (laws_FnFixPlace.j0 k t322 t323 t334 t345 (!t334) t313 t314 t315 t316 t317 t318 t319 t320 t321 t325 t326 t327 t328 t329 t330 t331 t332 t333 t336 t337 t338 t339 t340 t341 t342 t343 t344)) else (laws_FnFixPlace.j0 k t322 t323 t334 t345 true t313 t314 t315 t316 t317 t318 t319 t320 t321 t325 t326 t327 t328 t329 t330 t331 t332 t333 t336 t337 t338 t339 t340 t341 t342 t343 t344)) = some r := H
   have A20 := Aside0.mk A200
   clear A200
   by_cases c21 : t347 = true
   ·
    subst c21
    have H1 : (if (t334 != t345) = true then (laws_FnFixPlace.j0 k t322 t323 t334 t345 true t313 t314 t315 t316 t317 t318 t319 t320 t321 t325 t326 t327 t328 t329 t330 t331 t332 t333 t336 t337 t338 t339 t340 t341 t342 t343 t344) else (laws_FnFixPlace.j0 k t322 t323 t334 t345 (!t334) t313 t314 t315 t316 t317 t318 t319 t320 t321 t325 t326 t327 t328 t329 t330 t331 t332 t333 t336 t337 t338 t339 t340 t341 t342 t343 t344)) = some r := by rw [if_pos rfl] at H; exact H
    clear H
    have H := H1
    clear H1
    by_cases c22 : (t334 != t345) = true
    ·
     rw [if_pos c22] at H
     have c22b0 : (t334 != t345) = true := c22
     (try (have c22b1 : decide (t334 = t345) = false := by simpa using c22))
     (try (have c22b2 : (t334 == t345) = false := by simpa using c22))
     (try (have c22b3 : ¬ (t334 = t345) := by simpa using c22))
     clear c22
     (first | rw [c22b0] | (simp only [i64_w, i32_w]; rw [c22b0]) | skip)
     have H' := Aside0.mk H
     clear H
     have hnb23 := NB335_324.out
     have hnc23 := NB324_335.out
     have hnb24 := NB335_346.out
     have hnc24 := NB346_335.out
     have hcz25_0 : w16.cell? ⟨gb335, 0, none⟩ = some (.int .i64 t325) := (blk_cell BK335.out 0).trans rfl
     have hcz25_1 : w16.cell? ⟨gb335, 1, none⟩ = some (.int .i64 t326) := (blk_cell BK335.out 1).trans rfl
     have hcz25_2 : w16.cell? ⟨gb335, 2, none⟩ = some (.int .i64 t327) := (blk_cell BK335.out 2).trans rfl
     have hcz25_3 : w16.cell? ⟨gb335, 3, none⟩ = some (.int .i64 t328) := (blk_cell BK335.out 3).trans rfl
     have hcz25_4 : w16.cell? ⟨gb335, 4, none⟩ = some (.int .i64 t329) := (blk_cell BK335.out 4).trans rfl
     have hcz25_5 : w16.cell? ⟨gb335, 5, none⟩ = some (.int .i64 t330) := (blk_cell BK335.out 5).trans rfl
     have hcz25_6 : w16.cell? ⟨gb335, 6, none⟩ = some (.int .i64 t331) := (blk_cell BK335.out 6).trans rfl
     have hcz25_7 : w16.cell? ⟨gb335, 7, none⟩ = some (.int .i64 t332) := (blk_cell BK335.out 7).trans rfl
     have hcz25_8 : w16.cell? ⟨gb335, 8, none⟩ = some (.int .i64 t333) := (blk_cell BK335.out 8).trans rfl
     have hfz25_0 := blk_frozen BK335.out 0
     have hfz25_1 := blk_frozen BK335.out 1
     have hfz25_2 := blk_frozen BK335.out 2
     have hfz25_3 := blk_frozen BK335.out 3
     have hfz25_4 := blk_frozen BK335.out 4
     have hfz25_5 := blk_frozen BK335.out 5
     have hfz25_6 := blk_frozen BK335.out 6
     have hfz25_7 := blk_frozen BK335.out 7
     have hfz25_8 := blk_frozen BK335.out 8
     have hnb26 := NB346_324.out
     have hnc26 := NB324_346.out
     have hcz27_0 : w16.cell? ⟨gb346, 0, none⟩ = some (.int .i64 0) := (blk_cell BK346.out 0).trans rfl
     have hcz27_1 : w16.cell? ⟨gb346, 1, none⟩ = some (.int .i64 0) := (blk_cell BK346.out 1).trans rfl
     have hcz27_2 : w16.cell? ⟨gb346, 2, none⟩ = some (.int .i64 0) := (blk_cell BK346.out 2).trans rfl
     have hcz27_3 : w16.cell? ⟨gb346, 3, none⟩ = some (.int .i64 0) := (blk_cell BK346.out 3).trans rfl
     have hcz27_4 : w16.cell? ⟨gb346, 4, none⟩ = some (.int .i64 0) := (blk_cell BK346.out 4).trans rfl
     have hcz27_5 : w16.cell? ⟨gb346, 5, none⟩ = some (.int .i64 0) := (blk_cell BK346.out 5).trans rfl
     have hcz27_6 : w16.cell? ⟨gb346, 6, none⟩ = some (.int .i64 0) := (blk_cell BK346.out 6).trans rfl
     have hcz27_7 : w16.cell? ⟨gb346, 7, none⟩ = some (.int .i64 0) := (blk_cell BK346.out 7).trans rfl
     have hcz27_8 : w16.cell? ⟨gb346, 8, none⟩ = some (.int .i64 0) := (blk_cell BK346.out 8).trans rfl
     have hfz27_0 := blk_frozen BK346.out 0
     have hfz27_1 := blk_frozen BK346.out 1
     have hfz27_2 := blk_frozen BK346.out 2
     have hfz27_3 := blk_frozen BK346.out 3
     have hfz27_4 := blk_frozen BK346.out 4
     have hfz27_5 := blk_frozen BK346.out 5
     have hfz27_6 := blk_frozen BK346.out 6
     have hfz27_7 := blk_frozen BK346.out 7
     have hfz27_8 := blk_frozen BK346.out 8
     go_wp2_with (first | ((with_reducible refine gate_callee (f := 37) rfl ?_); refine goesL_ (some 38) rfl rfl Try.func37 (by kernel_rfl) rfl #[.agg #[.int .i64 t325, .int .i64 t326, .int .i64 t327, .int .i64 t328, .int .i64 t329, .int .i64 t330, .int .i64 t331, .int .i64 t332, .int .i64 t333], .agg #[.int .i64 t336, .int .i64 t337, .int .i64 t338, .int .i64 t339, .int .i64 t340, .int .i64 t341, .int .i64 t342, .int .i64 t343, .int .i64 t344]] rfl (by (try simp only [List.map_toArray, List.map_cons, List.map_nil]); first | done | rfl | (simp only [List.length_drop, List.length_take]; rfl)) ?_; (with_reducible refine (laws_equalPlace.calls t325 t326 t327 t328 t329 t330 t331 t332 t333 t336 t337 t338 t339 t340 t341 t342 t343 t344 true _ A20.out).mono ?_); rintro e w28 ⟨rfl, hb⟩; refine ⟨_, rfl, ?_⟩; have n0_ := Aside0.mk (blk_below (g := gb324) (o := .cells #[.int .i64 t313, .int .i64 t314, .int .i64 t315, .int .i64 t316, .int .i64 t317, .int .i64 t318, .int .i64 t319, .int .i64 t320, .int .i64 t321] 24 (0, 0)) (by (with_reducible repeat (first | refine blk_drewN ?_ _ | refine blk_drew ?_ | refine blk_alloc ?_ _ | refine blk_far ?_ NB324_346.out _)); exact BK324.out) hb); have n1_ := Aside0.mk (blk_below (g := gb335) (o := .cells #[.int .i64 t325, .int .i64 t326, .int .i64 t327, .int .i64 t328, .int .i64 t329, .int .i64 t330, .int .i64 t331, .int .i64 t332, .int .i64 t333] 24 (0, 0)) (by (with_reducible repeat (first | refine blk_drewN ?_ _ | refine blk_drew ?_ | refine blk_alloc ?_ _ | refine blk_far ?_ NB335_346.out _)); exact BK335.out) hb); have n2_ := Aside0.mk (blk_below (g := gb346) (o := .cells #[.int .i64 t336, .int .i64 t337, .int .i64 t338, .int .i64 t339, .int .i64 t340, .int .i64 t341, .int .i64 t342, .int .i64 t343, .int .i64 t344] 24 (0, 0)) (by (with_reducible repeat (first | refine blk_drewN ?_ _ | refine blk_drew ?_ | refine blk_alloc ?_ _)); refine blk_put (cs := #[.int .i64 t336, .int .i64 t337, .int .i64 t338, .int .i64 t339, .int .i64 t340, .int .i64 t341, .int .i64 t342, .int .i64 t343, .int .i64 0]) ?_ 8 _ rfl; (with_reducible repeat (first | refine blk_drewN ?_ _ | refine blk_drew ?_ | refine blk_alloc ?_ _)); refine blk_put (cs := #[.int .i64 t336, .int .i64 t337, .int .i64 t338, .int .i64 t339, .int .i64 t340, .int .i64 t341, .int .i64 t342, .int .i64 0, .int .i64 0]) ?_ 7 _ rfl; (with_reducible repeat (first | refine blk_drewN ?_ _ | refine blk_drew ?_ | refine blk_alloc ?_ _)); refine blk_put (cs := #[.int .i64 t336, .int .i64 t337, .int .i64 t338, .int .i64 t339, .int .i64 t340, .int .i64 t341, .int .i64 0, .int .i64 0, .int .i64 0]) ?_ 6 _ rfl; (with_reducible repeat (first | refine blk_drewN ?_ _ | refine blk_drew ?_ | refine blk_alloc ?_ _)); refine blk_put (cs := #[.int .i64 t336, .int .i64 t337, .int .i64 t338, .int .i64 t339, .int .i64 t340, .int .i64 0, .int .i64 0, .int .i64 0, .int .i64 0]) ?_ 5 _ rfl; (with_reducible repeat (first | refine blk_drewN ?_ _ | refine blk_drew ?_ | refine blk_alloc ?_ _)); refine blk_put (cs := #[.int .i64 t336, .int .i64 t337, .int .i64 t338, .int .i64 t339, .int .i64 0, .int .i64 0, .int .i64 0, .int .i64 0, .int .i64 0]) ?_ 4 _ rfl; (with_reducible repeat (first | refine blk_drewN ?_ _ | refine blk_drew ?_ | refine blk_alloc ?_ _)); refine blk_put (cs := #[.int .i64 t336, .int .i64 t337, .int .i64 t338, .int .i64 0, .int .i64 0, .int .i64 0, .int .i64 0, .int .i64 0, .int .i64 0]) ?_ 3 _ rfl; (with_reducible repeat (first | refine blk_drewN ?_ _ | refine blk_drew ?_ | refine blk_alloc ?_ _)); refine blk_put (cs := #[.int .i64 t336, .int .i64 t337, .int .i64 0, .int .i64 0, .int .i64 0, .int .i64 0, .int .i64 0, .int .i64 0, .int .i64 0]) ?_ 2 _ rfl; (with_reducible repeat (first | refine blk_drewN ?_ _ | refine blk_drew ?_ | refine blk_alloc ?_ _)); refine blk_put (cs := #[.int .i64 t336, .int .i64 0, .int .i64 0, .int .i64 0, .int .i64 0, .int .i64 0, .int .i64 0, .int .i64 0, .int .i64 0]) ?_ 1 _ rfl; (with_reducible repeat (first | refine blk_drewN ?_ _ | refine blk_drew ?_ | refine blk_alloc ?_ _)); refine blk_put (cs := #[.int .i64 0, .int .i64 0, .int .i64 0, .int .i64 0, .int .i64 0, .int .i64 0, .int .i64 0, .int .i64 0, .int .i64 0]) ?_ 0 _ rfl; (with_reducible repeat (first | refine blk_drewN ?_ _ | refine blk_drew ?_ | refine blk_alloc ?_ _)); exact BK346.out) hb); have n3_ := Aside0.mk (below_step (by repeat (first | (with_reducible first | exact HB.out | apply below_alloc | apply pw_below_drewN | apply below_drew1 | refine below_set ?_ GE324.out | refine below_set ?_ GE335.out | refine below_set ?_ GE346.out) | exact HB.out)) hb); clear BK324; clear BK335; clear BK346; clear HB; have BK324 := n0_; have BK335 := n1_; have BK346 := n2_; have HB := n3_; clear n0_ n1_ n2_ n3_; (try clear hb); (try clear hb2); (try clear hk); (try clear hi)))
     go_meet
     case rel => exact ⟨_, (true), (by first | rfl | (simp; done) | (simp [*]; done)), H', ⟨by first | omega | exact Nat.le_refl _⟩, ⟨by (with_reducible repeat (first | refine blk_drewN ?_ _ | refine blk_drew ?_ | refine blk_alloc ?_ _)); exact BK324.out⟩, ⟨by (with_reducible repeat (first | refine blk_drewN ?_ _ | refine blk_drew ?_ | refine blk_alloc ?_ _)); exact BK335.out⟩, ⟨by (with_reducible repeat (first | refine blk_drewN ?_ _ | refine blk_drew ?_ | refine blk_alloc ?_ _)); exact BK346.out⟩, ⟨by repeat (first | (with_reducible first | exact HB.out | apply below_alloc | apply pw_below_drewN | apply below_drew1 | refine below_set ?_ GE324.out | refine below_set ?_ GE335.out | refine below_set ?_ GE346.out) | exact HB.out)⟩⟩
    ·
     rw [if_neg c22] at H
     have c22b0 : (t334 != t345) = false := by simpa using c22
     (try (have c22b1 : decide (t334 = t345) = true := by simpa using c22))
     (try (have c22b2 : (t334 == t345) = true := by simpa using c22))
     clear c22
     (first | rw [c22b0] | (simp only [i64_w, i32_w]; rw [c22b0]) | skip)
     have H' := Aside0.mk H
     clear H
     have hnb29 := NB335_324.out
     have hnc29 := NB324_335.out
     have hnb30 := NB335_346.out
     have hnc30 := NB346_335.out
     have hcz31_0 : w16.cell? ⟨gb335, 0, none⟩ = some (.int .i64 t325) := (blk_cell BK335.out 0).trans rfl
     have hcz31_1 : w16.cell? ⟨gb335, 1, none⟩ = some (.int .i64 t326) := (blk_cell BK335.out 1).trans rfl
     have hcz31_2 : w16.cell? ⟨gb335, 2, none⟩ = some (.int .i64 t327) := (blk_cell BK335.out 2).trans rfl
     have hcz31_3 : w16.cell? ⟨gb335, 3, none⟩ = some (.int .i64 t328) := (blk_cell BK335.out 3).trans rfl
     have hcz31_4 : w16.cell? ⟨gb335, 4, none⟩ = some (.int .i64 t329) := (blk_cell BK335.out 4).trans rfl
     have hcz31_5 : w16.cell? ⟨gb335, 5, none⟩ = some (.int .i64 t330) := (blk_cell BK335.out 5).trans rfl
     have hcz31_6 : w16.cell? ⟨gb335, 6, none⟩ = some (.int .i64 t331) := (blk_cell BK335.out 6).trans rfl
     have hcz31_7 : w16.cell? ⟨gb335, 7, none⟩ = some (.int .i64 t332) := (blk_cell BK335.out 7).trans rfl
     have hcz31_8 : w16.cell? ⟨gb335, 8, none⟩ = some (.int .i64 t333) := (blk_cell BK335.out 8).trans rfl
     have hfz31_0 := blk_frozen BK335.out 0
     have hfz31_1 := blk_frozen BK335.out 1
     have hfz31_2 := blk_frozen BK335.out 2
     have hfz31_3 := blk_frozen BK335.out 3
     have hfz31_4 := blk_frozen BK335.out 4
     have hfz31_5 := blk_frozen BK335.out 5
     have hfz31_6 := blk_frozen BK335.out 6
     have hfz31_7 := blk_frozen BK335.out 7
     have hfz31_8 := blk_frozen BK335.out 8
     have hnb32 := NB346_324.out
     have hnc32 := NB324_346.out
     have hcz33_0 : w16.cell? ⟨gb346, 0, none⟩ = some (.int .i64 0) := (blk_cell BK346.out 0).trans rfl
     have hcz33_1 : w16.cell? ⟨gb346, 1, none⟩ = some (.int .i64 0) := (blk_cell BK346.out 1).trans rfl
     have hcz33_2 : w16.cell? ⟨gb346, 2, none⟩ = some (.int .i64 0) := (blk_cell BK346.out 2).trans rfl
     have hcz33_3 : w16.cell? ⟨gb346, 3, none⟩ = some (.int .i64 0) := (blk_cell BK346.out 3).trans rfl
     have hcz33_4 : w16.cell? ⟨gb346, 4, none⟩ = some (.int .i64 0) := (blk_cell BK346.out 4).trans rfl
     have hcz33_5 : w16.cell? ⟨gb346, 5, none⟩ = some (.int .i64 0) := (blk_cell BK346.out 5).trans rfl
     have hcz33_6 : w16.cell? ⟨gb346, 6, none⟩ = some (.int .i64 0) := (blk_cell BK346.out 6).trans rfl
     have hcz33_7 : w16.cell? ⟨gb346, 7, none⟩ = some (.int .i64 0) := (blk_cell BK346.out 7).trans rfl
     have hcz33_8 : w16.cell? ⟨gb346, 8, none⟩ = some (.int .i64 0) := (blk_cell BK346.out 8).trans rfl
     have hfz33_0 := blk_frozen BK346.out 0
     have hfz33_1 := blk_frozen BK346.out 1
     have hfz33_2 := blk_frozen BK346.out 2
     have hfz33_3 := blk_frozen BK346.out 3
     have hfz33_4 := blk_frozen BK346.out 4
     have hfz33_5 := blk_frozen BK346.out 5
     have hfz33_6 := blk_frozen BK346.out 6
     have hfz33_7 := blk_frozen BK346.out 7
     have hfz33_8 := blk_frozen BK346.out 8
     go_wp2_with (first | ((with_reducible refine gate_callee (f := 37) rfl ?_); refine goesL_ (some 38) rfl rfl Try.func37 (by kernel_rfl) rfl #[.agg #[.int .i64 t325, .int .i64 t326, .int .i64 t327, .int .i64 t328, .int .i64 t329, .int .i64 t330, .int .i64 t331, .int .i64 t332, .int .i64 t333], .agg #[.int .i64 t336, .int .i64 t337, .int .i64 t338, .int .i64 t339, .int .i64 t340, .int .i64 t341, .int .i64 t342, .int .i64 t343, .int .i64 t344]] rfl (by (try simp only [List.map_toArray, List.map_cons, List.map_nil]); first | done | rfl | (simp only [List.length_drop, List.length_take]; rfl)) ?_; (with_reducible refine (laws_equalPlace.calls t325 t326 t327 t328 t329 t330 t331 t332 t333 t336 t337 t338 t339 t340 t341 t342 t343 t344 true _ A20.out).mono ?_); rintro e w34 ⟨rfl, hb⟩; refine ⟨_, rfl, ?_⟩; have n0_ := Aside0.mk (blk_below (g := gb324) (o := .cells #[.int .i64 t313, .int .i64 t314, .int .i64 t315, .int .i64 t316, .int .i64 t317, .int .i64 t318, .int .i64 t319, .int .i64 t320, .int .i64 t321] 24 (0, 0)) (by (with_reducible repeat (first | refine blk_drewN ?_ _ | refine blk_drew ?_ | refine blk_alloc ?_ _ | refine blk_far ?_ NB324_346.out _)); exact BK324.out) hb); have n1_ := Aside0.mk (blk_below (g := gb335) (o := .cells #[.int .i64 t325, .int .i64 t326, .int .i64 t327, .int .i64 t328, .int .i64 t329, .int .i64 t330, .int .i64 t331, .int .i64 t332, .int .i64 t333] 24 (0, 0)) (by (with_reducible repeat (first | refine blk_drewN ?_ _ | refine blk_drew ?_ | refine blk_alloc ?_ _ | refine blk_far ?_ NB335_346.out _)); exact BK335.out) hb); have n2_ := Aside0.mk (blk_below (g := gb346) (o := .cells #[.int .i64 t336, .int .i64 t337, .int .i64 t338, .int .i64 t339, .int .i64 t340, .int .i64 t341, .int .i64 t342, .int .i64 t343, .int .i64 t344] 24 (0, 0)) (by (with_reducible repeat (first | refine blk_drewN ?_ _ | refine blk_drew ?_ | refine blk_alloc ?_ _)); refine blk_put (cs := #[.int .i64 t336, .int .i64 t337, .int .i64 t338, .int .i64 t339, .int .i64 t340, .int .i64 t341, .int .i64 t342, .int .i64 t343, .int .i64 0]) ?_ 8 _ rfl; (with_reducible repeat (first | refine blk_drewN ?_ _ | refine blk_drew ?_ | refine blk_alloc ?_ _)); refine blk_put (cs := #[.int .i64 t336, .int .i64 t337, .int .i64 t338, .int .i64 t339, .int .i64 t340, .int .i64 t341, .int .i64 t342, .int .i64 0, .int .i64 0]) ?_ 7 _ rfl; (with_reducible repeat (first | refine blk_drewN ?_ _ | refine blk_drew ?_ | refine blk_alloc ?_ _)); refine blk_put (cs := #[.int .i64 t336, .int .i64 t337, .int .i64 t338, .int .i64 t339, .int .i64 t340, .int .i64 t341, .int .i64 0, .int .i64 0, .int .i64 0]) ?_ 6 _ rfl; (with_reducible repeat (first | refine blk_drewN ?_ _ | refine blk_drew ?_ | refine blk_alloc ?_ _)); refine blk_put (cs := #[.int .i64 t336, .int .i64 t337, .int .i64 t338, .int .i64 t339, .int .i64 t340, .int .i64 0, .int .i64 0, .int .i64 0, .int .i64 0]) ?_ 5 _ rfl; (with_reducible repeat (first | refine blk_drewN ?_ _ | refine blk_drew ?_ | refine blk_alloc ?_ _)); refine blk_put (cs := #[.int .i64 t336, .int .i64 t337, .int .i64 t338, .int .i64 t339, .int .i64 0, .int .i64 0, .int .i64 0, .int .i64 0, .int .i64 0]) ?_ 4 _ rfl; (with_reducible repeat (first | refine blk_drewN ?_ _ | refine blk_drew ?_ | refine blk_alloc ?_ _)); refine blk_put (cs := #[.int .i64 t336, .int .i64 t337, .int .i64 t338, .int .i64 0, .int .i64 0, .int .i64 0, .int .i64 0, .int .i64 0, .int .i64 0]) ?_ 3 _ rfl; (with_reducible repeat (first | refine blk_drewN ?_ _ | refine blk_drew ?_ | refine blk_alloc ?_ _)); refine blk_put (cs := #[.int .i64 t336, .int .i64 t337, .int .i64 0, .int .i64 0, .int .i64 0, .int .i64 0, .int .i64 0, .int .i64 0, .int .i64 0]) ?_ 2 _ rfl; (with_reducible repeat (first | refine blk_drewN ?_ _ | refine blk_drew ?_ | refine blk_alloc ?_ _)); refine blk_put (cs := #[.int .i64 t336, .int .i64 0, .int .i64 0, .int .i64 0, .int .i64 0, .int .i64 0, .int .i64 0, .int .i64 0, .int .i64 0]) ?_ 1 _ rfl; (with_reducible repeat (first | refine blk_drewN ?_ _ | refine blk_drew ?_ | refine blk_alloc ?_ _)); refine blk_put (cs := #[.int .i64 0, .int .i64 0, .int .i64 0, .int .i64 0, .int .i64 0, .int .i64 0, .int .i64 0, .int .i64 0, .int .i64 0]) ?_ 0 _ rfl; (with_reducible repeat (first | refine blk_drewN ?_ _ | refine blk_drew ?_ | refine blk_alloc ?_ _)); exact BK346.out) hb); have n3_ := Aside0.mk (below_step (by repeat (first | (with_reducible first | exact HB.out | apply below_alloc | apply pw_below_drewN | apply below_drew1 | refine below_set ?_ GE324.out | refine below_set ?_ GE335.out | refine below_set ?_ GE346.out) | exact HB.out)) hb); clear BK324; clear BK335; clear BK346; clear HB; have BK324 := n0_; have BK335 := n1_; have BK346 := n2_; have HB := n3_; clear n0_ n1_ n2_ n3_; (try clear hb); (try clear hb2); (try clear hk); (try clear hi)))
     go_meet
     case rel => exact ⟨_, (!t334), (by first | rfl | (simp; done) | (simp [*]; done)), H', ⟨by first | omega | exact Nat.le_refl _⟩, ⟨by (with_reducible repeat (first | refine blk_drewN ?_ _ | refine blk_drew ?_ | refine blk_alloc ?_ _)); exact BK324.out⟩, ⟨by (with_reducible repeat (first | refine blk_drewN ?_ _ | refine blk_drew ?_ | refine blk_alloc ?_ _)); exact BK335.out⟩, ⟨by (with_reducible repeat (first | refine blk_drewN ?_ _ | refine blk_drew ?_ | refine blk_alloc ?_ _)); exact BK346.out⟩, ⟨by repeat (first | (with_reducible first | exact HB.out | apply below_alloc | apply pw_below_drewN | apply below_drew1 | refine below_set ?_ GE324.out | refine below_set ?_ GE335.out | refine below_set ?_ GE346.out) | exact HB.out)⟩⟩
   ·
    replace c21 := Bool.eq_false_iff.mpr c21
    subst c21
    have H1 : (laws_FnFixPlace.j0 k t322 t323 t334 t345 true t313 t314 t315 t316 t317 t318 t319 t320 t321 t325 t326 t327 t328 t329 t330 t331 t332 t333 t336 t337 t338 t339 t340 t341 t342 t343 t344) = some r := by rw [if_neg (show ¬ (false = true) by decide)] at H; exact H
    clear H
    have H := H1
    clear H1
    have H' := Aside0.mk H
    clear H
    have hnb35 := NB335_324.out
    have hnc35 := NB324_335.out
    have hnb36 := NB335_346.out
    have hnc36 := NB346_335.out
    have hcz37_0 : w16.cell? ⟨gb335, 0, none⟩ = some (.int .i64 t325) := (blk_cell BK335.out 0).trans rfl
    have hcz37_1 : w16.cell? ⟨gb335, 1, none⟩ = some (.int .i64 t326) := (blk_cell BK335.out 1).trans rfl
    have hcz37_2 : w16.cell? ⟨gb335, 2, none⟩ = some (.int .i64 t327) := (blk_cell BK335.out 2).trans rfl
    have hcz37_3 : w16.cell? ⟨gb335, 3, none⟩ = some (.int .i64 t328) := (blk_cell BK335.out 3).trans rfl
    have hcz37_4 : w16.cell? ⟨gb335, 4, none⟩ = some (.int .i64 t329) := (blk_cell BK335.out 4).trans rfl
    have hcz37_5 : w16.cell? ⟨gb335, 5, none⟩ = some (.int .i64 t330) := (blk_cell BK335.out 5).trans rfl
    have hcz37_6 : w16.cell? ⟨gb335, 6, none⟩ = some (.int .i64 t331) := (blk_cell BK335.out 6).trans rfl
    have hcz37_7 : w16.cell? ⟨gb335, 7, none⟩ = some (.int .i64 t332) := (blk_cell BK335.out 7).trans rfl
    have hcz37_8 : w16.cell? ⟨gb335, 8, none⟩ = some (.int .i64 t333) := (blk_cell BK335.out 8).trans rfl
    have hfz37_0 := blk_frozen BK335.out 0
    have hfz37_1 := blk_frozen BK335.out 1
    have hfz37_2 := blk_frozen BK335.out 2
    have hfz37_3 := blk_frozen BK335.out 3
    have hfz37_4 := blk_frozen BK335.out 4
    have hfz37_5 := blk_frozen BK335.out 5
    have hfz37_6 := blk_frozen BK335.out 6
    have hfz37_7 := blk_frozen BK335.out 7
    have hfz37_8 := blk_frozen BK335.out 8
    have hnb38 := NB346_324.out
    have hnc38 := NB324_346.out
    have hcz39_0 : w16.cell? ⟨gb346, 0, none⟩ = some (.int .i64 0) := (blk_cell BK346.out 0).trans rfl
    have hcz39_1 : w16.cell? ⟨gb346, 1, none⟩ = some (.int .i64 0) := (blk_cell BK346.out 1).trans rfl
    have hcz39_2 : w16.cell? ⟨gb346, 2, none⟩ = some (.int .i64 0) := (blk_cell BK346.out 2).trans rfl
    have hcz39_3 : w16.cell? ⟨gb346, 3, none⟩ = some (.int .i64 0) := (blk_cell BK346.out 3).trans rfl
    have hcz39_4 : w16.cell? ⟨gb346, 4, none⟩ = some (.int .i64 0) := (blk_cell BK346.out 4).trans rfl
    have hcz39_5 : w16.cell? ⟨gb346, 5, none⟩ = some (.int .i64 0) := (blk_cell BK346.out 5).trans rfl
    have hcz39_6 : w16.cell? ⟨gb346, 6, none⟩ = some (.int .i64 0) := (blk_cell BK346.out 6).trans rfl
    have hcz39_7 : w16.cell? ⟨gb346, 7, none⟩ = some (.int .i64 0) := (blk_cell BK346.out 7).trans rfl
    have hcz39_8 : w16.cell? ⟨gb346, 8, none⟩ = some (.int .i64 0) := (blk_cell BK346.out 8).trans rfl
    have hfz39_0 := blk_frozen BK346.out 0
    have hfz39_1 := blk_frozen BK346.out 1
    have hfz39_2 := blk_frozen BK346.out 2
    have hfz39_3 := blk_frozen BK346.out 3
    have hfz39_4 := blk_frozen BK346.out 4
    have hfz39_5 := blk_frozen BK346.out 5
    have hfz39_6 := blk_frozen BK346.out 6
    have hfz39_7 := blk_frozen BK346.out 7
    have hfz39_8 := blk_frozen BK346.out 8
    go_wp2_with (first | ((with_reducible refine gate_callee (f := 37) rfl ?_); refine goesL_ (some 38) rfl rfl Try.func37 (by kernel_rfl) rfl #[.agg #[.int .i64 t325, .int .i64 t326, .int .i64 t327, .int .i64 t328, .int .i64 t329, .int .i64 t330, .int .i64 t331, .int .i64 t332, .int .i64 t333], .agg #[.int .i64 t336, .int .i64 t337, .int .i64 t338, .int .i64 t339, .int .i64 t340, .int .i64 t341, .int .i64 t342, .int .i64 t343, .int .i64 t344]] rfl (by (try simp only [List.map_toArray, List.map_cons, List.map_nil]); first | done | rfl | (simp only [List.length_drop, List.length_take]; rfl)) ?_; (with_reducible refine (laws_equalPlace.calls t325 t326 t327 t328 t329 t330 t331 t332 t333 t336 t337 t338 t339 t340 t341 t342 t343 t344 false _ A20.out).mono ?_); rintro e w40 ⟨rfl, hb⟩; refine ⟨_, rfl, ?_⟩; have n0_ := Aside0.mk (blk_below (g := gb324) (o := .cells #[.int .i64 t313, .int .i64 t314, .int .i64 t315, .int .i64 t316, .int .i64 t317, .int .i64 t318, .int .i64 t319, .int .i64 t320, .int .i64 t321] 24 (0, 0)) (by (with_reducible repeat (first | refine blk_drewN ?_ _ | refine blk_drew ?_ | refine blk_alloc ?_ _ | refine blk_far ?_ NB324_346.out _)); exact BK324.out) hb); have n1_ := Aside0.mk (blk_below (g := gb335) (o := .cells #[.int .i64 t325, .int .i64 t326, .int .i64 t327, .int .i64 t328, .int .i64 t329, .int .i64 t330, .int .i64 t331, .int .i64 t332, .int .i64 t333] 24 (0, 0)) (by (with_reducible repeat (first | refine blk_drewN ?_ _ | refine blk_drew ?_ | refine blk_alloc ?_ _ | refine blk_far ?_ NB335_346.out _)); exact BK335.out) hb); have n2_ := Aside0.mk (blk_below (g := gb346) (o := .cells #[.int .i64 t336, .int .i64 t337, .int .i64 t338, .int .i64 t339, .int .i64 t340, .int .i64 t341, .int .i64 t342, .int .i64 t343, .int .i64 t344] 24 (0, 0)) (by (with_reducible repeat (first | refine blk_drewN ?_ _ | refine blk_drew ?_ | refine blk_alloc ?_ _)); refine blk_put (cs := #[.int .i64 t336, .int .i64 t337, .int .i64 t338, .int .i64 t339, .int .i64 t340, .int .i64 t341, .int .i64 t342, .int .i64 t343, .int .i64 0]) ?_ 8 _ rfl; (with_reducible repeat (first | refine blk_drewN ?_ _ | refine blk_drew ?_ | refine blk_alloc ?_ _)); refine blk_put (cs := #[.int .i64 t336, .int .i64 t337, .int .i64 t338, .int .i64 t339, .int .i64 t340, .int .i64 t341, .int .i64 t342, .int .i64 0, .int .i64 0]) ?_ 7 _ rfl; (with_reducible repeat (first | refine blk_drewN ?_ _ | refine blk_drew ?_ | refine blk_alloc ?_ _)); refine blk_put (cs := #[.int .i64 t336, .int .i64 t337, .int .i64 t338, .int .i64 t339, .int .i64 t340, .int .i64 t341, .int .i64 0, .int .i64 0, .int .i64 0]) ?_ 6 _ rfl; (with_reducible repeat (first | refine blk_drewN ?_ _ | refine blk_drew ?_ | refine blk_alloc ?_ _)); refine blk_put (cs := #[.int .i64 t336, .int .i64 t337, .int .i64 t338, .int .i64 t339, .int .i64 t340, .int .i64 0, .int .i64 0, .int .i64 0, .int .i64 0]) ?_ 5 _ rfl; (with_reducible repeat (first | refine blk_drewN ?_ _ | refine blk_drew ?_ | refine blk_alloc ?_ _)); refine blk_put (cs := #[.int .i64 t336, .int .i64 t337, .int .i64 t338, .int .i64 t339, .int .i64 0, .int .i64 0, .int .i64 0, .int .i64 0, .int .i64 0]) ?_ 4 _ rfl; (with_reducible repeat (first | refine blk_drewN ?_ _ | refine blk_drew ?_ | refine blk_alloc ?_ _)); refine blk_put (cs := #[.int .i64 t336, .int .i64 t337, .int .i64 t338, .int .i64 0, .int .i64 0, .int .i64 0, .int .i64 0, .int .i64 0, .int .i64 0]) ?_ 3 _ rfl; (with_reducible repeat (first | refine blk_drewN ?_ _ | refine blk_drew ?_ | refine blk_alloc ?_ _)); refine blk_put (cs := #[.int .i64 t336, .int .i64 t337, .int .i64 0, .int .i64 0, .int .i64 0, .int .i64 0, .int .i64 0, .int .i64 0, .int .i64 0]) ?_ 2 _ rfl; (with_reducible repeat (first | refine blk_drewN ?_ _ | refine blk_drew ?_ | refine blk_alloc ?_ _)); refine blk_put (cs := #[.int .i64 t336, .int .i64 0, .int .i64 0, .int .i64 0, .int .i64 0, .int .i64 0, .int .i64 0, .int .i64 0, .int .i64 0]) ?_ 1 _ rfl; (with_reducible repeat (first | refine blk_drewN ?_ _ | refine blk_drew ?_ | refine blk_alloc ?_ _)); refine blk_put (cs := #[.int .i64 0, .int .i64 0, .int .i64 0, .int .i64 0, .int .i64 0, .int .i64 0, .int .i64 0, .int .i64 0, .int .i64 0]) ?_ 0 _ rfl; (with_reducible repeat (first | refine blk_drewN ?_ _ | refine blk_drew ?_ | refine blk_alloc ?_ _)); exact BK346.out) hb); have n3_ := Aside0.mk (below_step (by repeat (first | (with_reducible first | exact HB.out | apply below_alloc | apply pw_below_drewN | apply below_drew1 | refine below_set ?_ GE324.out | refine below_set ?_ GE335.out | refine below_set ?_ GE346.out) | exact HB.out)) hb); clear BK324; clear BK335; clear BK346; clear HB; have BK324 := n0_; have BK335 := n1_; have BK346 := n2_; have HB := n3_; clear n0_ n1_ n2_ n3_; (try clear hb); (try clear hb2); (try clear hk); (try clear hi)))
    go_meet
    case rel => exact ⟨_, (true), (by first | rfl | (simp; done) | (simp [*]; done)), H', ⟨by first | omega | exact Nat.le_refl _⟩, ⟨by (with_reducible repeat (first | refine blk_drewN ?_ _ | refine blk_drew ?_ | refine blk_alloc ?_ _)); exact BK324.out⟩, ⟨by (with_reducible repeat (first | refine blk_drewN ?_ _ | refine blk_drew ?_ | refine blk_alloc ?_ _)); exact BK335.out⟩, ⟨by (with_reducible repeat (first | refine blk_drewN ?_ _ | refine blk_drew ?_ | refine blk_alloc ?_ _)); exact BK346.out⟩, ⟨by repeat (first | (with_reducible first | exact HB.out | apply below_alloc | apply pw_below_drewN | apply below_drew1 | refine below_set ?_ GE324.out | refine below_set ?_ GE335.out | refine below_set ?_ GE346.out) | exact HB.out)⟩⟩
  case rest =>
   clear HC6
   try clear c1
   try clear c2
   try clear c2b0
   try clear c2b1
   try clear p2
   try clear c3
   try clear c7
   try clear c12
   try clear c17
   try clear c18
   try clear c21
   try clear c22
   try clear c22b0
   try clear c22b1
   try clear c22b2
   try clear c23
   try clear c24
   try clear c26
   try clear c29
   try clear c30
   try clear c32
   try clear c34
   try clear c35
   try clear c36
   try clear c37
   try clear c38
   try clear hcz13_0
   try clear hcz13_1
   try clear hcz13_2
   try clear hcz13_3
   try clear hcz13_4
   try clear hcz13_5
   try clear hcz13_6
   try clear hcz13_7
   try clear hcz13_8
   try clear hcz14_0
   try clear hcz14_1
   try clear hcz14_2
   try clear hcz14_3
   try clear hcz14_4
   try clear hcz14_5
   try clear hcz14_6
   try clear hcz14_7
   try clear hcz14_8
   try clear hcz19_0
   try clear hcz19_1
   try clear hcz19_2
   try clear hcz19_3
   try clear hcz19_4
   try clear hcz19_5
   try clear hcz19_6
   try clear hcz19_7
   try clear hcz19_8
   try clear hcz25_0
   try clear hcz25_1
   try clear hcz25_2
   try clear hcz25_3
   try clear hcz25_4
   try clear hcz25_5
   try clear hcz25_6
   try clear hcz25_7
   try clear hcz25_8
   try clear hcz27_0
   try clear hcz27_1
   try clear hcz27_2
   try clear hcz27_3
   try clear hcz27_4
   try clear hcz27_5
   try clear hcz27_6
   try clear hcz27_7
   try clear hcz27_8
   try clear hcz31_0
   try clear hcz31_1
   try clear hcz31_2
   try clear hcz31_3
   try clear hcz31_4
   try clear hcz31_5
   try clear hcz31_6
   try clear hcz31_7
   try clear hcz31_8
   try clear hcz33_0
   try clear hcz33_1
   try clear hcz33_2
   try clear hcz33_3
   try clear hcz33_4
   try clear hcz33_5
   try clear hcz33_6
   try clear hcz33_7
   try clear hcz33_8
   try clear hcz37_0
   try clear hcz37_1
   try clear hcz37_2
   try clear hcz37_3
   try clear hcz37_4
   try clear hcz37_5
   try clear hcz37_6
   try clear hcz37_7
   try clear hcz37_8
   try clear hcz39_0
   try clear hcz39_1
   try clear hcz39_2
   try clear hcz39_3
   try clear hcz39_4
   try clear hcz39_5
   try clear hcz39_6
   try clear hcz39_7
   try clear hcz39_8
   try clear hcz9_0
   try clear hcz9_1
   try clear hcz9_2
   try clear hcz9_3
   try clear hcz9_4
   try clear hcz9_5
   try clear hcz9_6
   try clear hcz9_7
   try clear hcz9_8
   try clear hfz13_0
   try clear hfz13_1
   try clear hfz13_2
   try clear hfz13_3
   try clear hfz13_4
   try clear hfz13_5
   try clear hfz13_6
   try clear hfz13_7
   try clear hfz13_8
   try clear hfz14_0
   try clear hfz14_1
   try clear hfz14_2
   try clear hfz14_3
   try clear hfz14_4
   try clear hfz14_5
   try clear hfz14_6
   try clear hfz14_7
   try clear hfz14_8
   try clear hfz19_0
   try clear hfz19_1
   try clear hfz19_2
   try clear hfz19_3
   try clear hfz19_4
   try clear hfz19_5
   try clear hfz19_6
   try clear hfz19_7
   try clear hfz19_8
   try clear hfz25_0
   try clear hfz25_1
   try clear hfz25_2
   try clear hfz25_3
   try clear hfz25_4
   try clear hfz25_5
   try clear hfz25_6
   try clear hfz25_7
   try clear hfz25_8
   try clear hfz27_0
   try clear hfz27_1
   try clear hfz27_2
   try clear hfz27_3
   try clear hfz27_4
   try clear hfz27_5
   try clear hfz27_6
   try clear hfz27_7
   try clear hfz27_8
   try clear hfz31_0
   try clear hfz31_1
   try clear hfz31_2
   try clear hfz31_3
   try clear hfz31_4
   try clear hfz31_5
   try clear hfz31_6
   try clear hfz31_7
   try clear hfz31_8
   try clear hfz33_0
   try clear hfz33_1
   try clear hfz33_2
   try clear hfz33_3
   try clear hfz33_4
   try clear hfz33_5
   try clear hfz33_6
   try clear hfz33_7
   try clear hfz33_8
   try clear hfz37_0
   try clear hfz37_1
   try clear hfz37_2
   try clear hfz37_3
   try clear hfz37_4
   try clear hfz37_5
   try clear hfz37_6
   try clear hfz37_7
   try clear hfz37_8
   try clear hfz39_0
   try clear hfz39_1
   try clear hfz39_2
   try clear hfz39_3
   try clear hfz39_4
   try clear hfz39_5
   try clear hfz39_6
   try clear hfz39_7
   try clear hfz39_8
   try clear hfz9_0
   try clear hfz9_1
   try clear hfz9_2
   try clear hfz9_3
   try clear hfz9_4
   try clear hfz9_5
   try clear hfz9_6
   try clear hfz9_7
   try clear hfz9_8
   obtain ⟨kq, x48_5, rfl, HA, HJ5, BK324, BK335, BK346, HB⟩ := hcut
   cases kq with
   | zero => exact absurd HA.out (by simp [laws_FnFixPlace.j0])
   | succ kj5 =>
    have H := HA.out
    clear HA
    simp only [laws_FnFixPlace.j0] at H
    by_cases c41 : x48_5 = true
    ·
     subst c41
     have H1 : ((laws_equalPlace.f t325 t326 t327 t328 t329 t330 t331 t332 t333 t336 t337 t338 t339 t340 t341 t342 t343 t344).bind fun t348 => (if t348 = true then (some (t334 == t345)) else (some false))) = some r := by rw [if_pos rfl] at H; exact H
     clear H
     have H := H1
     clear H1
     replace H := Option.bind_eq_some_iff.mp H
     obtain ⟨t348, A420, H⟩ := H
     replace H : (if t348 = true then (some (t334 == t345)) else (some false)) = some r := H
     have A42 := Aside0.mk A420
     clear A420
     by_cases c43 : t348 = true
     ·
      subst c43
      have H1 : (some (t334 == t345)) = some r := by rw [if_pos rfl] at H; exact H
      clear H
      have H := H1
      clear H1
      obtain rfl := Option.some.inj H
      have hnb44 := NB335_324.out
      have hnc44 := NB324_335.out
      have hnb45 := NB335_346.out
      have hnc45 := NB346_335.out
      have hcz46_0 : wc.cell? ⟨gb335, 0, none⟩ = some (.int .i64 t325) := (blk_cell BK335.out 0).trans rfl
      have hcz46_1 : wc.cell? ⟨gb335, 1, none⟩ = some (.int .i64 t326) := (blk_cell BK335.out 1).trans rfl
      have hcz46_2 : wc.cell? ⟨gb335, 2, none⟩ = some (.int .i64 t327) := (blk_cell BK335.out 2).trans rfl
      have hcz46_3 : wc.cell? ⟨gb335, 3, none⟩ = some (.int .i64 t328) := (blk_cell BK335.out 3).trans rfl
      have hcz46_4 : wc.cell? ⟨gb335, 4, none⟩ = some (.int .i64 t329) := (blk_cell BK335.out 4).trans rfl
      have hcz46_5 : wc.cell? ⟨gb335, 5, none⟩ = some (.int .i64 t330) := (blk_cell BK335.out 5).trans rfl
      have hcz46_6 : wc.cell? ⟨gb335, 6, none⟩ = some (.int .i64 t331) := (blk_cell BK335.out 6).trans rfl
      have hcz46_7 : wc.cell? ⟨gb335, 7, none⟩ = some (.int .i64 t332) := (blk_cell BK335.out 7).trans rfl
      have hcz46_8 : wc.cell? ⟨gb335, 8, none⟩ = some (.int .i64 t333) := (blk_cell BK335.out 8).trans rfl
      have hfz46_0 := blk_frozen BK335.out 0
      have hfz46_1 := blk_frozen BK335.out 1
      have hfz46_2 := blk_frozen BK335.out 2
      have hfz46_3 := blk_frozen BK335.out 3
      have hfz46_4 := blk_frozen BK335.out 4
      have hfz46_5 := blk_frozen BK335.out 5
      have hfz46_6 := blk_frozen BK335.out 6
      have hfz46_7 := blk_frozen BK335.out 7
      have hfz46_8 := blk_frozen BK335.out 8
      have hnb47 := NB346_324.out
      have hnc47 := NB324_346.out
      have hcz48_0 : wc.cell? ⟨gb346, 0, none⟩ = some (.int .i64 t336) := (blk_cell BK346.out 0).trans rfl
      have hcz48_1 : wc.cell? ⟨gb346, 1, none⟩ = some (.int .i64 t337) := (blk_cell BK346.out 1).trans rfl
      have hcz48_2 : wc.cell? ⟨gb346, 2, none⟩ = some (.int .i64 t338) := (blk_cell BK346.out 2).trans rfl
      have hcz48_3 : wc.cell? ⟨gb346, 3, none⟩ = some (.int .i64 t339) := (blk_cell BK346.out 3).trans rfl
      have hcz48_4 : wc.cell? ⟨gb346, 4, none⟩ = some (.int .i64 t340) := (blk_cell BK346.out 4).trans rfl
      have hcz48_5 : wc.cell? ⟨gb346, 5, none⟩ = some (.int .i64 t341) := (blk_cell BK346.out 5).trans rfl
      have hcz48_6 : wc.cell? ⟨gb346, 6, none⟩ = some (.int .i64 t342) := (blk_cell BK346.out 6).trans rfl
      have hcz48_7 : wc.cell? ⟨gb346, 7, none⟩ = some (.int .i64 t343) := (blk_cell BK346.out 7).trans rfl
      have hcz48_8 : wc.cell? ⟨gb346, 8, none⟩ = some (.int .i64 t344) := (blk_cell BK346.out 8).trans rfl
      have hfz48_0 := blk_frozen BK346.out 0
      have hfz48_1 := blk_frozen BK346.out 1
      have hfz48_2 := blk_frozen BK346.out 2
      have hfz48_3 := blk_frozen BK346.out 3
      have hfz48_4 := blk_frozen BK346.out 4
      have hfz48_5 := blk_frozen BK346.out 5
      have hfz48_6 := blk_frozen BK346.out 6
      have hfz48_7 := blk_frozen BK346.out 7
      have hfz48_8 := blk_frozen BK346.out 8
      go_wp2_with (first | ((with_reducible refine gate_callee (f := 37) rfl ?_); refine goesL_ (some 51) rfl rfl Try.func37 (by kernel_rfl) rfl #[.agg #[.int .i64 t325, .int .i64 t326, .int .i64 t327, .int .i64 t328, .int .i64 t329, .int .i64 t330, .int .i64 t331, .int .i64 t332, .int .i64 t333], .agg #[.int .i64 t336, .int .i64 t337, .int .i64 t338, .int .i64 t339, .int .i64 t340, .int .i64 t341, .int .i64 t342, .int .i64 t343, .int .i64 t344]] rfl (by (try simp only [List.map_toArray, List.map_cons, List.map_nil]); first | done | rfl | (simp only [List.length_drop, List.length_take]; rfl)) ?_; (with_reducible refine (laws_equalPlace.calls t325 t326 t327 t328 t329 t330 t331 t332 t333 t336 t337 t338 t339 t340 t341 t342 t343 t344 true _ A42.out).mono ?_); rintro e w49 ⟨rfl, hb⟩; refine ⟨_, rfl, ?_⟩; have n0_ := Aside0.mk (blk_below (g := gb324) (o := .cells #[.int .i64 t313, .int .i64 t314, .int .i64 t315, .int .i64 t316, .int .i64 t317, .int .i64 t318, .int .i64 t319, .int .i64 t320, .int .i64 t321] 24 (0, 0)) (by (with_reducible repeat (first | refine blk_drewN ?_ _ | refine blk_drew ?_ | refine blk_alloc ?_ _)); exact BK324.out) hb); have n1_ := Aside0.mk (blk_below (g := gb335) (o := .cells #[.int .i64 t325, .int .i64 t326, .int .i64 t327, .int .i64 t328, .int .i64 t329, .int .i64 t330, .int .i64 t331, .int .i64 t332, .int .i64 t333] 24 (0, 0)) (by (with_reducible repeat (first | refine blk_drewN ?_ _ | refine blk_drew ?_ | refine blk_alloc ?_ _)); exact BK335.out) hb); have n2_ := Aside0.mk (blk_below (g := gb346) (o := .cells #[.int .i64 t336, .int .i64 t337, .int .i64 t338, .int .i64 t339, .int .i64 t340, .int .i64 t341, .int .i64 t342, .int .i64 t343, .int .i64 t344] 24 (0, 0)) (by (with_reducible repeat (first | refine blk_drewN ?_ _ | refine blk_drew ?_ | refine blk_alloc ?_ _)); exact BK346.out) hb); have n3_ := Aside0.mk (below_step (by repeat (first | (with_reducible first | exact HB.out | apply below_alloc | apply pw_below_drewN | apply below_drew1 | refine below_set ?_ GE324.out | refine below_set ?_ GE335.out | refine below_set ?_ GE346.out) | exact HB.out)) hb); clear BK324; clear BK335; clear BK346; clear HB; have BK324 := n0_; have BK335 := n1_; have BK346 := n2_; have HB := n3_; clear n0_ n1_ n2_ n3_; (try clear hb); (try clear hb2); (try clear hk); (try clear hi)))
      go_ret
      exact ⟨by first | rfl | (simp [errW_none, errW_some] <;> rfl) | (simp [*, errW_none, errW_some] <;> rfl), by repeat (first | (with_reducible first | exact HB.out | apply below_alloc | apply pw_below_drewN | apply below_drew1 | refine below_set ?_ GE324.out | refine below_set ?_ GE335.out | refine below_set ?_ GE346.out) | exact HB.out)⟩
     ·
      replace c43 := Bool.eq_false_iff.mpr c43
      subst c43
      have H1 : (some false) = some r := by rw [if_neg (show ¬ (false = true) by decide)] at H; exact H
      exact absurd ((Option.some.inj H1).trans HR.out) (by decide)
    ·
     replace c41 := Bool.eq_false_iff.mpr c41
     subst c41
     have H1 : ((impl_PlaceRect.f kj5 t313 t314 t315 t316 t317 t318 t319 t320 t321 t322 t323).bind fun bt349 => ((impl_PlaceRect.f kj5 t325 t326 t327 t328 t329 t330 t331 t332 t333 t322 t323).bind fun bt354 => ((impl_PlaceRect.f kj5 t325 t326 t327 t328 t329 t330 t331 t332 t333 77 99).bind fun bt359 => (if (bt349.1 == bt354.1 && (bt349.2.1 == bt354.2.1 && (bt349.2.2.1 == bt354.2.2.1 && (bt349.2.2.2 == bt354.2.2.2)))) = true then (if (bt359.1 == bt349.1 && (bt359.2.1 == bt349.2.1 && (bt359.2.2.1 == bt349.2.2.1 && (bt359.2.2.2 == bt349.2.2.2)))) = true then (some ((wrap64 ((wrap64 ((wrap64 (t327 + t328)) + t331)) + t332)) == 0)) else (some false)) else (some false))))) = some r := by rw [if_neg (show ¬ (false = true) by decide)] at H; exact H
     clear H
     have H := H1
     clear H1
     replace H := Option.bind_eq_some_iff.mp H
     obtain ⟨⟨t349, t350, t351, t352⟩, A560, H⟩ := H
     replace H : ((impl_PlaceRect.f kj5 t325 t326 t327 t328 t329 t330 t331 t332 t333 t322 t323).bind fun bt354 => ((impl_PlaceRect.f kj5 t325 t326 t327 t328 t329 t330 t331 t332 t333 77 99).bind fun bt359 => (if (t349 == bt354.1 && (t350 == bt354.2.1 && (t351 == bt354.2.2.1 && (t352 == bt354.2.2.2)))) = true then (if (bt359.1 == t349 && (bt359.2.1 == t350 && (bt359.2.2.1 == t351 && (bt359.2.2.2 == t352)))) = true then (some ((wrap64 ((wrap64 ((wrap64 (t327 + t328)) + t331)) + t332)) == 0)) else (some false)) else (some false)))) = some r := H
     have A56 := Aside0.mk A560
     clear A560
     replace H := Option.bind_eq_some_iff.mp H
     obtain ⟨⟨t354, t355, t356, t357⟩, A570, H⟩ := H
     replace H : ((impl_PlaceRect.f kj5 t325 t326 t327 t328 t329 t330 t331 t332 t333 77 99).bind fun bt359 => (if (t349 == t354 && (t350 == t355 && (t351 == t356 && (t352 == t357)))) = true then (if (bt359.1 == t349 && (bt359.2.1 == t350 && (bt359.2.2.1 == t351 && (bt359.2.2.2 == t352)))) = true then (some ((wrap64 ((wrap64 ((wrap64 (t327 + t328)) + t331)) + t332)) == 0)) else (some false)) else (some false))) = some r := H
     have A57 := Aside0.mk A570
     clear A570
     replace H := Option.bind_eq_some_iff.mp H
     obtain ⟨⟨t359, t360, t361, t362⟩, A580, H⟩ := H
     replace H : (if (t349 == t354 && (t350 == t355 && (t351 == t356 && (t352 == t357)))) = true then (if (t359 == t349 && (t360 == t350 && (t361 == t351 && (t362 == t352)))) = true then (some ((wrap64 ((wrap64 ((wrap64 (t327 + t328)) + t331)) + t332)) == 0)) else (some false)) else (some false)) = some r := H
     have A58 := Aside0.mk A580
     clear A580
     by_cases c59 : (t349 == t354 && (t350 == t355 && (t351 == t356 && (t352 == t357)))) = true
     ·
      rw [if_pos c59] at H
      have c59b0 : (t349 == t354 && (t350 == t355 && (t351 == t356 && (t352 == t357)))) = true := c59
      (try (have c59b1 : decide (t349 = t354 && (t350 == t355 && (t351 == t356 && (t352 == t357)))) = true := by simpa using c59))
      (try (have c59b2 : (t349 == t354 && (t350 == t355 && (t351 == t356 && (t352 == t357)))) = true := by simpa using c59))
      clear c59
      by_cases c60 : (t359 == t349 && (t360 == t350 && (t361 == t351 && (t362 == t352)))) = true
      ·
       rw [if_pos c60] at H
       have c60b0 : (t359 == t349 && (t360 == t350 && (t361 == t351 && (t362 == t352)))) = true := c60
       (try (have c60b1 : decide (t359 = t349 && (t360 == t350 && (t361 == t351 && (t362 == t352)))) = true := by simpa using c60))
       (try (have c60b2 : (t359 == t349 && (t360 == t350 && (t361 == t351 && (t362 == t352)))) = true := by simpa using c60))
       clear c60
       obtain rfl := Option.some.inj H
       have hnb61 := NB324_335.out
       have hnc61 := NB335_324.out
       have hnb62 := NB324_346.out
       have hnc62 := NB346_324.out
       have hcz63_0 : wc.cell? ⟨gb324, 0, none⟩ = some (.int .i64 t313) := (blk_cell BK324.out 0).trans rfl
       have hcz63_1 : wc.cell? ⟨gb324, 1, none⟩ = some (.int .i64 t314) := (blk_cell BK324.out 1).trans rfl
       have hcz63_2 : wc.cell? ⟨gb324, 2, none⟩ = some (.int .i64 t315) := (blk_cell BK324.out 2).trans rfl
       have hcz63_3 : wc.cell? ⟨gb324, 3, none⟩ = some (.int .i64 t316) := (blk_cell BK324.out 3).trans rfl
       have hcz63_4 : wc.cell? ⟨gb324, 4, none⟩ = some (.int .i64 t317) := (blk_cell BK324.out 4).trans rfl
       have hcz63_5 : wc.cell? ⟨gb324, 5, none⟩ = some (.int .i64 t318) := (blk_cell BK324.out 5).trans rfl
       have hcz63_6 : wc.cell? ⟨gb324, 6, none⟩ = some (.int .i64 t319) := (blk_cell BK324.out 6).trans rfl
       have hcz63_7 : wc.cell? ⟨gb324, 7, none⟩ = some (.int .i64 t320) := (blk_cell BK324.out 7).trans rfl
       have hcz63_8 : wc.cell? ⟨gb324, 8, none⟩ = some (.int .i64 t321) := (blk_cell BK324.out 8).trans rfl
       have hfz63_0 := blk_frozen BK324.out 0
       have hfz63_1 := blk_frozen BK324.out 1
       have hfz63_2 := blk_frozen BK324.out 2
       have hfz63_3 := blk_frozen BK324.out 3
       have hfz63_4 := blk_frozen BK324.out 4
       have hfz63_5 := blk_frozen BK324.out 5
       have hfz63_6 := blk_frozen BK324.out 6
       have hfz63_7 := blk_frozen BK324.out 7
       have hfz63_8 := blk_frozen BK324.out 8
       go_wp2_with (first | ((with_reducible refine gate_callee (f := 19) rfl ?_); refine goesL_ (some 60) rfl rfl Try.func19 (by kernel_rfl) rfl #[.agg #[.int .i64 t313, .int .i64 t314, .int .i64 t315, .int .i64 t316, .int .i64 t317, .int .i64 t318, .int .i64 t319, .int .i64 t320, .int .i64 t321], .int .i64 t322, .int .i64 t323] rfl (by (try simp only [List.map_toArray, List.map_cons, List.map_nil]); first | done | rfl | (simp only [List.length_drop, List.length_take]; rfl)) ?_; (with_reducible refine (impl_PlaceRect.calls kj5 t313 t314 t315 t316 t317 t318 t319 t320 t321 t322 t323 t349 t350 t351 t352 _ A56.out).mono ?_); rintro e w64 ⟨rfl, hb⟩; refine ⟨_, rfl, ?_⟩; have n0_ := Aside0.mk (blk_below (g := gb324) (o := .cells #[.int .i64 t313, .int .i64 t314, .int .i64 t315, .int .i64 t316, .int .i64 t317, .int .i64 t318, .int .i64 t319, .int .i64 t320, .int .i64 t321] 24 (0, 0)) (by (with_reducible repeat (first | refine blk_drewN ?_ _ | refine blk_drew ?_ | refine blk_alloc ?_ _)); exact BK324.out) hb); have n1_ := Aside0.mk (blk_below (g := gb335) (o := .cells #[.int .i64 t325, .int .i64 t326, .int .i64 t327, .int .i64 t328, .int .i64 t329, .int .i64 t330, .int .i64 t331, .int .i64 t332, .int .i64 t333] 24 (0, 0)) (by (with_reducible repeat (first | refine blk_drewN ?_ _ | refine blk_drew ?_ | refine blk_alloc ?_ _)); exact BK335.out) hb); have n2_ := Aside0.mk (blk_below (g := gb346) (o := .cells #[.int .i64 t336, .int .i64 t337, .int .i64 t338, .int .i64 t339, .int .i64 t340, .int .i64 t341, .int .i64 t342, .int .i64 t343, .int .i64 t344] 24 (0, 0)) (by (with_reducible repeat (first | refine blk_drewN ?_ _ | refine blk_drew ?_ | refine blk_alloc ?_ _)); exact BK346.out) hb); have n3_ := Aside0.mk (below_step (by repeat (first | (with_reducible first | exact HB.out | apply below_alloc | apply pw_below_drewN | apply below_drew1 | refine below_set ?_ GE324.out | refine below_set ?_ GE335.out | refine below_set ?_ GE346.out) | exact HB.out)) hb); clear BK324; clear BK335; clear BK346; clear HB; have BK324 := n0_; have BK335 := n1_; have BK346 := n2_; have HB := n3_; clear n0_ n1_ n2_ n3_; (try clear hb); (try clear hb2); (try clear hk); (try clear hi)) | ((with_reducible refine gate_dst (N := 10) rfl ?_); refine box_event ?hg (N := 10) ?hd (cs := #[.int .i64 0, .int .i64 0, .int .i64 0, .int .i64 0]) (t := 31) ?hr ?_; (case hd => rfl); (case hg => rfl); (case hr => first | (go_simp; done) | (go_simp; rfl)); intro gb353 hg w65 hbox hb; have n0_ := Aside0.mk (blk_below (g := gb324) (o := .cells #[.int .i64 t313, .int .i64 t314, .int .i64 t315, .int .i64 t316, .int .i64 t317, .int .i64 t318, .int .i64 t319, .int .i64 t320, .int .i64 t321] 24 (0, 0)) (by (with_reducible repeat (first | refine blk_drewN ?_ _ | refine blk_drew ?_ | refine blk_alloc ?_ _)); exact BK324.out) hb); have n1_ := Aside0.mk (blk_below (g := gb335) (o := .cells #[.int .i64 t325, .int .i64 t326, .int .i64 t327, .int .i64 t328, .int .i64 t329, .int .i64 t330, .int .i64 t331, .int .i64 t332, .int .i64 t333] 24 (0, 0)) (by (with_reducible repeat (first | refine blk_drewN ?_ _ | refine blk_drew ?_ | refine blk_alloc ?_ _)); exact BK335.out) hb); have n2_ := Aside0.mk (blk_below (g := gb346) (o := .cells #[.int .i64 t336, .int .i64 t337, .int .i64 t338, .int .i64 t339, .int .i64 t340, .int .i64 t341, .int .i64 t342, .int .i64 t343, .int .i64 t344] 24 (0, 0)) (by (with_reducible repeat (first | refine blk_drewN ?_ _ | refine blk_drew ?_ | refine blk_alloc ?_ _)); exact BK346.out) hb); have n3_ := Aside0.mk (below_step (by repeat (first | (with_reducible first | exact HB.out | apply below_alloc | apply pw_below_drewN | apply below_drew1 | refine below_set ?_ GE324.out | refine below_set ?_ GE335.out | refine below_set ?_ GE346.out) | exact HB.out)) hb); have n4_ := Aside0.mk (hbox); have n5_ := Aside0.mk ((by rw [hg]; exact (below_size (by repeat (first | (with_reducible first | exact HB.out | apply below_alloc | apply pw_below_drewN | apply below_drew1 | refine below_set ?_ GE324.out | refine below_set ?_ GE335.out | refine below_set ?_ GE346.out) | exact HB.out))) : w.heap.size ≤ gb353)); have n6_ := Aside0.mk ((by rw [hg]; exact (below_size (by repeat (first | (with_reducible first | exact HB.out | apply below_alloc | apply pw_below_drewN | apply below_drew1 | refine below_set ?_ GE324.out | refine below_set ?_ GE335.out | refine below_set ?_ GE346.out) | exact HB.out))) : w.heap.size ≤ gb353)); have n7_ := Aside0.mk ((by rw [hg]; exact Nat.ne_of_lt (blk_lt (g := gb324) (o := .cells #[.int .i64 t313, .int .i64 t314, .int .i64 t315, .int .i64 t316, .int .i64 t317, .int .i64 t318, .int .i64 t319, .int .i64 t320, .int .i64 t321] 24 (0, 0)) (by (with_reducible repeat (first | refine blk_drewN ?_ _ | refine blk_drew ?_ | refine blk_alloc ?_ _)); exact BK324.out)) : gb324 ≠ gb353)); have n8_ := Aside0.mk ((by rw [hg]; exact Nat.ne_of_gt (blk_lt (g := gb324) (o := .cells #[.int .i64 t313, .int .i64 t314, .int .i64 t315, .int .i64 t316, .int .i64 t317, .int .i64 t318, .int .i64 t319, .int .i64 t320, .int .i64 t321] 24 (0, 0)) (by (with_reducible repeat (first | refine blk_drewN ?_ _ | refine blk_drew ?_ | refine blk_alloc ?_ _)); exact BK324.out)) : gb353 ≠ gb324)); have n9_ := Aside0.mk ((by rw [hg]; exact Nat.ne_of_lt (blk_lt (g := gb335) (o := .cells #[.int .i64 t325, .int .i64 t326, .int .i64 t327, .int .i64 t328, .int .i64 t329, .int .i64 t330, .int .i64 t331, .int .i64 t332, .int .i64 t333] 24 (0, 0)) (by (with_reducible repeat (first | refine blk_drewN ?_ _ | refine blk_drew ?_ | refine blk_alloc ?_ _)); exact BK335.out)) : gb335 ≠ gb353)); have n10_ := Aside0.mk ((by rw [hg]; exact Nat.ne_of_gt (blk_lt (g := gb335) (o := .cells #[.int .i64 t325, .int .i64 t326, .int .i64 t327, .int .i64 t328, .int .i64 t329, .int .i64 t330, .int .i64 t331, .int .i64 t332, .int .i64 t333] 24 (0, 0)) (by (with_reducible repeat (first | refine blk_drewN ?_ _ | refine blk_drew ?_ | refine blk_alloc ?_ _)); exact BK335.out)) : gb353 ≠ gb335)); have n11_ := Aside0.mk ((by rw [hg]; exact Nat.ne_of_lt (blk_lt (g := gb346) (o := .cells #[.int .i64 t336, .int .i64 t337, .int .i64 t338, .int .i64 t339, .int .i64 t340, .int .i64 t341, .int .i64 t342, .int .i64 t343, .int .i64 t344] 24 (0, 0)) (by (with_reducible repeat (first | refine blk_drewN ?_ _ | refine blk_drew ?_ | refine blk_alloc ?_ _)); exact BK346.out)) : gb346 ≠ gb353)); have n12_ := Aside0.mk ((by rw [hg]; exact Nat.ne_of_gt (blk_lt (g := gb346) (o := .cells #[.int .i64 t336, .int .i64 t337, .int .i64 t338, .int .i64 t339, .int .i64 t340, .int .i64 t341, .int .i64 t342, .int .i64 t343, .int .i64 t344] 24 (0, 0)) (by (with_reducible repeat (first | refine blk_drewN ?_ _ | refine blk_drew ?_ | refine blk_alloc ?_ _)); exact BK346.out)) : gb353 ≠ gb346)); clear BK324; clear BK335; clear BK346; clear HB; have BK324 := n0_; have BK335 := n1_; have BK346 := n2_; have HB := n3_; have BK353 := n4_; have GW353 := n5_; have GE353 := n6_; have NB324_353 := n7_; have NB353_324 := n8_; have NB335_353 := n9_; have NB353_335 := n10_; have NB346_353 := n11_; have NB353_346 := n12_; clear n0_ n1_ n2_ n3_ n4_ n5_ n6_ n7_ n8_ n9_ n10_ n11_ n12_; clear hb hbox hg; have hnb66 := NB353_324.out; have hnc66 := NB324_353.out; have hnb67 := NB353_335.out; have hnc67 := NB335_353.out; have hnb68 := NB353_346.out; have hnc68 := NB346_353.out; have hcz69_0 : w65.cell? ⟨gb353, 0, none⟩ = some (.int .i64 0) := (blk_cell BK353.out 0).trans rfl; have hcz69_1 : w65.cell? ⟨gb353, 1, none⟩ = some (.int .i64 0) := (blk_cell BK353.out 1).trans rfl; have hcz69_2 : w65.cell? ⟨gb353, 2, none⟩ = some (.int .i64 0) := (blk_cell BK353.out 2).trans rfl; have hcz69_3 : w65.cell? ⟨gb353, 3, none⟩ = some (.int .i64 0) := (blk_cell BK353.out 3).trans rfl; have hfz69_0 := blk_frozen BK353.out 0; have hfz69_1 := blk_frozen BK353.out 1; have hfz69_2 := blk_frozen BK353.out 2; have hfz69_3 := blk_frozen BK353.out 3; have hnb70 := NB335_346.out; have hnc70 := NB346_335.out; have hcz71_0 : w65.cell? ⟨gb335, 0, none⟩ = some (.int .i64 t325) := (blk_cell BK335.out 0).trans rfl; have hcz71_1 : w65.cell? ⟨gb335, 1, none⟩ = some (.int .i64 t326) := (blk_cell BK335.out 1).trans rfl; have hcz71_2 : w65.cell? ⟨gb335, 2, none⟩ = some (.int .i64 t327) := (blk_cell BK335.out 2).trans rfl; have hcz71_3 : w65.cell? ⟨gb335, 3, none⟩ = some (.int .i64 t328) := (blk_cell BK335.out 3).trans rfl; have hcz71_4 : w65.cell? ⟨gb335, 4, none⟩ = some (.int .i64 t329) := (blk_cell BK335.out 4).trans rfl; have hcz71_5 : w65.cell? ⟨gb335, 5, none⟩ = some (.int .i64 t330) := (blk_cell BK335.out 5).trans rfl; have hcz71_6 : w65.cell? ⟨gb335, 6, none⟩ = some (.int .i64 t331) := (blk_cell BK335.out 6).trans rfl; have hcz71_7 : w65.cell? ⟨gb335, 7, none⟩ = some (.int .i64 t332) := (blk_cell BK335.out 7).trans rfl; have hcz71_8 : w65.cell? ⟨gb335, 8, none⟩ = some (.int .i64 t333) := (blk_cell BK335.out 8).trans rfl; have hfz71_0 := blk_frozen BK335.out 0; have hfz71_1 := blk_frozen BK335.out 1; have hfz71_2 := blk_frozen BK335.out 2; have hfz71_3 := blk_frozen BK335.out 3; have hfz71_4 := blk_frozen BK335.out 4; have hfz71_5 := blk_frozen BK335.out 5; have hfz71_6 := blk_frozen BK335.out 6; have hfz71_7 := blk_frozen BK335.out 7; have hfz71_8 := blk_frozen BK335.out 8) | ((with_reducible refine gate_callee (f := 19) rfl ?_); refine goesL_ (some 64) rfl rfl Try.func19 (by kernel_rfl) rfl #[.agg #[.int .i64 t325, .int .i64 t326, .int .i64 t327, .int .i64 t328, .int .i64 t329, .int .i64 t330, .int .i64 t331, .int .i64 t332, .int .i64 t333], .int .i64 t322, .int .i64 t323] rfl (by (try simp only [List.map_toArray, List.map_cons, List.map_nil]); first | done | rfl | (simp only [List.length_drop, List.length_take]; rfl)) ?_; (with_reducible refine (impl_PlaceRect.calls kj5 t325 t326 t327 t328 t329 t330 t331 t332 t333 t322 t323 t354 t355 t356 t357 _ A57.out).mono ?_); rintro e w72 ⟨rfl, hb⟩; refine ⟨_, rfl, ?_⟩; have n0_ := Aside0.mk (blk_below (g := gb324) (o := .cells #[.int .i64 t313, .int .i64 t314, .int .i64 t315, .int .i64 t316, .int .i64 t317, .int .i64 t318, .int .i64 t319, .int .i64 t320, .int .i64 t321] 24 (0, 0)) (by (with_reducible repeat (first | refine blk_drewN ?_ _ | refine blk_drew ?_ | refine blk_alloc ?_ _ | refine blk_far ?_ NB324_353.out _)); exact BK324.out) hb); have n1_ := Aside0.mk (blk_below (g := gb335) (o := .cells #[.int .i64 t325, .int .i64 t326, .int .i64 t327, .int .i64 t328, .int .i64 t329, .int .i64 t330, .int .i64 t331, .int .i64 t332, .int .i64 t333] 24 (0, 0)) (by (with_reducible repeat (first | refine blk_drewN ?_ _ | refine blk_drew ?_ | refine blk_alloc ?_ _ | refine blk_far ?_ NB335_353.out _)); exact BK335.out) hb); have n2_ := Aside0.mk (blk_below (g := gb346) (o := .cells #[.int .i64 t336, .int .i64 t337, .int .i64 t338, .int .i64 t339, .int .i64 t340, .int .i64 t341, .int .i64 t342, .int .i64 t343, .int .i64 t344] 24 (0, 0)) (by (with_reducible repeat (first | refine blk_drewN ?_ _ | refine blk_drew ?_ | refine blk_alloc ?_ _ | refine blk_far ?_ NB346_353.out _)); exact BK346.out) hb); have n3_ := Aside0.mk (blk_below (g := gb353) (o := .cells #[.int .i64 t349, .int .i64 t350, .int .i64 t351, .int .i64 t352] 31 (0, 0)) (by (with_reducible repeat (first | refine blk_drewN ?_ _ | refine blk_drew ?_ | refine blk_alloc ?_ _)); refine blk_put (cs := #[.int .i64 t349, .int .i64 t350, .int .i64 t351, .int .i64 0]) ?_ 3 _ rfl; (with_reducible repeat (first | refine blk_drewN ?_ _ | refine blk_drew ?_ | refine blk_alloc ?_ _)); refine blk_put (cs := #[.int .i64 t349, .int .i64 t350, .int .i64 0, .int .i64 0]) ?_ 2 _ rfl; (with_reducible repeat (first | refine blk_drewN ?_ _ | refine blk_drew ?_ | refine blk_alloc ?_ _)); refine blk_put (cs := #[.int .i64 t349, .int .i64 0, .int .i64 0, .int .i64 0]) ?_ 1 _ rfl; (with_reducible repeat (first | refine blk_drewN ?_ _ | refine blk_drew ?_ | refine blk_alloc ?_ _)); refine blk_put (cs := #[.int .i64 0, .int .i64 0, .int .i64 0, .int .i64 0]) ?_ 0 _ rfl; (with_reducible repeat (first | refine blk_drewN ?_ _ | refine blk_drew ?_ | refine blk_alloc ?_ _)); exact BK353.out) hb); have n4_ := Aside0.mk (below_step (by repeat (first | (with_reducible first | exact HB.out | apply below_alloc | apply pw_below_drewN | apply below_drew1 | refine below_set ?_ GE324.out | refine below_set ?_ GE335.out | refine below_set ?_ GE346.out | refine below_set ?_ GE353.out) | exact HB.out)) hb); clear BK324; clear BK335; clear BK346; clear BK353; clear HB; have BK324 := n0_; have BK335 := n1_; have BK346 := n2_; have BK353 := n3_; have HB := n4_; clear n0_ n1_ n2_ n3_ n4_; (try clear hb); (try clear hb2); (try clear hk); (try clear hi)) | ((with_reducible refine gate_dst (N := 11) rfl ?_); refine box_event ?hg (N := 11) ?hd (cs := #[.int .i64 0, .int .i64 0, .int .i64 0, .int .i64 0]) (t := 31) ?hr ?_; (case hd => rfl); (case hg => rfl); (case hr => first | (go_simp; done) | (go_simp; rfl)); intro gb358 hg w73 hbox hb; have n0_ := Aside0.mk (blk_below (g := gb324) (o := .cells #[.int .i64 t313, .int .i64 t314, .int .i64 t315, .int .i64 t316, .int .i64 t317, .int .i64 t318, .int .i64 t319, .int .i64 t320, .int .i64 t321] 24 (0, 0)) (by (with_reducible repeat (first | refine blk_drewN ?_ _ | refine blk_drew ?_ | refine blk_alloc ?_ _)); exact BK324.out) hb); have n1_ := Aside0.mk (blk_below (g := gb335) (o := .cells #[.int .i64 t325, .int .i64 t326, .int .i64 t327, .int .i64 t328, .int .i64 t329, .int .i64 t330, .int .i64 t331, .int .i64 t332, .int .i64 t333] 24 (0, 0)) (by (with_reducible repeat (first | refine blk_drewN ?_ _ | refine blk_drew ?_ | refine blk_alloc ?_ _)); exact BK335.out) hb); have n2_ := Aside0.mk (blk_below (g := gb346) (o := .cells #[.int .i64 t336, .int .i64 t337, .int .i64 t338, .int .i64 t339, .int .i64 t340, .int .i64 t341, .int .i64 t342, .int .i64 t343, .int .i64 t344] 24 (0, 0)) (by (with_reducible repeat (first | refine blk_drewN ?_ _ | refine blk_drew ?_ | refine blk_alloc ?_ _)); exact BK346.out) hb); have n3_ := Aside0.mk (blk_below (g := gb353) (o := .cells #[.int .i64 t349, .int .i64 t350, .int .i64 t351, .int .i64 t352] 31 (0, 0)) (by (with_reducible repeat (first | refine blk_drewN ?_ _ | refine blk_drew ?_ | refine blk_alloc ?_ _)); exact BK353.out) hb); have n4_ := Aside0.mk (below_step (by repeat (first | (with_reducible first | exact HB.out | apply below_alloc | apply pw_below_drewN | apply below_drew1 | refine below_set ?_ GE324.out | refine below_set ?_ GE335.out | refine below_set ?_ GE346.out | refine below_set ?_ GE353.out) | exact HB.out)) hb); have n5_ := Aside0.mk (hbox); have n6_ := Aside0.mk ((by rw [hg]; exact (below_size (by repeat (first | (with_reducible first | exact HB.out | apply below_alloc | apply pw_below_drewN | apply below_drew1 | refine below_set ?_ GE324.out | refine below_set ?_ GE335.out | refine below_set ?_ GE346.out | refine below_set ?_ GE353.out) | exact HB.out))) : w.heap.size ≤ gb358)); have n7_ := Aside0.mk ((by rw [hg]; exact (below_size (by repeat (first | (with_reducible first | exact HB.out | apply below_alloc | apply pw_below_drewN | apply below_drew1 | refine below_set ?_ GE324.out | refine below_set ?_ GE335.out | refine below_set ?_ GE346.out | refine below_set ?_ GE353.out) | exact HB.out))) : w.heap.size ≤ gb358)); have n8_ := Aside0.mk ((by rw [hg]; exact Nat.ne_of_lt (blk_lt (g := gb324) (o := .cells #[.int .i64 t313, .int .i64 t314, .int .i64 t315, .int .i64 t316, .int .i64 t317, .int .i64 t318, .int .i64 t319, .int .i64 t320, .int .i64 t321] 24 (0, 0)) (by (with_reducible repeat (first | refine blk_drewN ?_ _ | refine blk_drew ?_ | refine blk_alloc ?_ _)); exact BK324.out)) : gb324 ≠ gb358)); have n9_ := Aside0.mk ((by rw [hg]; exact Nat.ne_of_gt (blk_lt (g := gb324) (o := .cells #[.int .i64 t313, .int .i64 t314, .int .i64 t315, .int .i64 t316, .int .i64 t317, .int .i64 t318, .int .i64 t319, .int .i64 t320, .int .i64 t321] 24 (0, 0)) (by (with_reducible repeat (first | refine blk_drewN ?_ _ | refine blk_drew ?_ | refine blk_alloc ?_ _)); exact BK324.out)) : gb358 ≠ gb324)); have n10_ := Aside0.mk ((by rw [hg]; exact Nat.ne_of_lt (blk_lt (g := gb335) (o := .cells #[.int .i64 t325, .int .i64 t326, .int .i64 t327, .int .i64 t328, .int .i64 t329, .int .i64 t330, .int .i64 t331, .int .i64 t332, .int .i64 t333] 24 (0, 0)) (by (with_reducible repeat (first | refine blk_drewN ?_ _ | refine blk_drew ?_ | refine blk_alloc ?_ _)); exact BK335.out)) : gb335 ≠ gb358)); have n11_ := Aside0.mk ((by rw [hg]; exact Nat.ne_of_gt (blk_lt (g := gb335) (o := .cells #[.int .i64 t325, .int .i64 t326, .int .i64 t327, .int .i64 t328, .int .i64 t329, .int .i64 t330, .int .i64 t331, .int .i64 t332, .int .i64 t333] 24 (0, 0)) (by (with_reducible repeat (first | refine blk_drewN ?_ _ | refine blk_drew ?_ | refine blk_alloc ?_ _)); exact BK335.out)) : gb358 ≠ gb335)); have n12_ := Aside0.mk ((by rw [hg]; exact Nat.ne_of_lt (blk_lt (g := gb346) (o := .cells #[.int .i64 t336, .int .i64 t337, .int .i64 t338, .int .i64 t339, .int .i64 t340, .int .i64 t341, .int .i64 t342, .int .i64 t343, .int .i64 t344] 24 (0, 0)) (by (with_reducible repeat (first | refine blk_drewN ?_ _ | refine blk_drew ?_ | refine blk_alloc ?_ _)); exact BK346.out)) : gb346 ≠ gb358)); have n13_ := Aside0.mk ((by rw [hg]; exact Nat.ne_of_gt (blk_lt (g := gb346) (o := .cells #[.int .i64 t336, .int .i64 t337, .int .i64 t338, .int .i64 t339, .int .i64 t340, .int .i64 t341, .int .i64 t342, .int .i64 t343, .int .i64 t344] 24 (0, 0)) (by (with_reducible repeat (first | refine blk_drewN ?_ _ | refine blk_drew ?_ | refine blk_alloc ?_ _)); exact BK346.out)) : gb358 ≠ gb346)); have n14_ := Aside0.mk ((by rw [hg]; exact Nat.ne_of_lt (blk_lt (g := gb353) (o := .cells #[.int .i64 t349, .int .i64 t350, .int .i64 t351, .int .i64 t352] 31 (0, 0)) (by (with_reducible repeat (first | refine blk_drewN ?_ _ | refine blk_drew ?_ | refine blk_alloc ?_ _)); exact BK353.out)) : gb353 ≠ gb358)); have n15_ := Aside0.mk ((by rw [hg]; exact Nat.ne_of_gt (blk_lt (g := gb353) (o := .cells #[.int .i64 t349, .int .i64 t350, .int .i64 t351, .int .i64 t352] 31 (0, 0)) (by (with_reducible repeat (first | refine blk_drewN ?_ _ | refine blk_drew ?_ | refine blk_alloc ?_ _)); exact BK353.out)) : gb358 ≠ gb353)); clear BK324; clear BK335; clear BK346; clear BK353; clear HB; have BK324 := n0_; have BK335 := n1_; have BK346 := n2_; have BK353 := n3_; have HB := n4_; have BK358 := n5_; have GW358 := n6_; have GE358 := n7_; have NB324_358 := n8_; have NB358_324 := n9_; have NB335_358 := n10_; have NB358_335 := n11_; have NB346_358 := n12_; have NB358_346 := n13_; have NB353_358 := n14_; have NB358_353 := n15_; clear n0_ n1_ n2_ n3_ n4_ n5_ n6_ n7_ n8_ n9_ n10_ n11_ n12_ n13_ n14_ n15_; clear hb hbox hg; have hnb74 := NB358_324.out; have hnc74 := NB324_358.out; have hnb75 := NB358_335.out; have hnc75 := NB335_358.out; have hnb76 := NB358_346.out; have hnc76 := NB346_358.out; have hnb77 := NB358_353.out; have hnc77 := NB353_358.out; have hcz78_0 : w73.cell? ⟨gb358, 0, none⟩ = some (.int .i64 0) := (blk_cell BK358.out 0).trans rfl; have hcz78_1 : w73.cell? ⟨gb358, 1, none⟩ = some (.int .i64 0) := (blk_cell BK358.out 1).trans rfl; have hcz78_2 : w73.cell? ⟨gb358, 2, none⟩ = some (.int .i64 0) := (blk_cell BK358.out 2).trans rfl; have hcz78_3 : w73.cell? ⟨gb358, 3, none⟩ = some (.int .i64 0) := (blk_cell BK358.out 3).trans rfl; have hfz78_0 := blk_frozen BK358.out 0; have hfz78_1 := blk_frozen BK358.out 1; have hfz78_2 := blk_frozen BK358.out 2; have hfz78_3 := blk_frozen BK358.out 3; have hcz79_0 : w73.cell? ⟨gb335, 0, none⟩ = some (.int .i64 t325) := (blk_cell BK335.out 0).trans rfl; have hcz79_1 : w73.cell? ⟨gb335, 1, none⟩ = some (.int .i64 t326) := (blk_cell BK335.out 1).trans rfl; have hcz79_2 : w73.cell? ⟨gb335, 2, none⟩ = some (.int .i64 t327) := (blk_cell BK335.out 2).trans rfl; have hcz79_3 : w73.cell? ⟨gb335, 3, none⟩ = some (.int .i64 t328) := (blk_cell BK335.out 3).trans rfl; have hcz79_4 : w73.cell? ⟨gb335, 4, none⟩ = some (.int .i64 t329) := (blk_cell BK335.out 4).trans rfl; have hcz79_5 : w73.cell? ⟨gb335, 5, none⟩ = some (.int .i64 t330) := (blk_cell BK335.out 5).trans rfl; have hcz79_6 : w73.cell? ⟨gb335, 6, none⟩ = some (.int .i64 t331) := (blk_cell BK335.out 6).trans rfl; have hcz79_7 : w73.cell? ⟨gb335, 7, none⟩ = some (.int .i64 t332) := (blk_cell BK335.out 7).trans rfl; have hcz79_8 : w73.cell? ⟨gb335, 8, none⟩ = some (.int .i64 t333) := (blk_cell BK335.out 8).trans rfl; have hfz79_0 := blk_frozen BK335.out 0; have hfz79_1 := blk_frozen BK335.out 1; have hfz79_2 := blk_frozen BK335.out 2; have hfz79_3 := blk_frozen BK335.out 3; have hfz79_4 := blk_frozen BK335.out 4; have hfz79_5 := blk_frozen BK335.out 5; have hfz79_6 := blk_frozen BK335.out 6; have hfz79_7 := blk_frozen BK335.out 7; have hfz79_8 := blk_frozen BK335.out 8) | ((with_reducible refine gate_callee (f := 19) rfl ?_); refine goesL_ (some 66) rfl rfl Try.func19 (by kernel_rfl) rfl #[.agg #[.int .i64 t325, .int .i64 t326, .int .i64 t327, .int .i64 t328, .int .i64 t329, .int .i64 t330, .int .i64 t331, .int .i64 t332, .int .i64 t333], .int .i64 77, .int .i64 99] rfl (by (try simp only [List.map_toArray, List.map_cons, List.map_nil]); first | done | rfl | (simp only [List.length_drop, List.length_take]; rfl)) ?_; (with_reducible refine (impl_PlaceRect.calls kj5 t325 t326 t327 t328 t329 t330 t331 t332 t333 77 99 t359 t360 t361 t362 _ A58.out).mono ?_); rintro e w80 ⟨rfl, hb⟩; refine ⟨_, rfl, ?_⟩; have n0_ := Aside0.mk (blk_below (g := gb324) (o := .cells #[.int .i64 t313, .int .i64 t314, .int .i64 t315, .int .i64 t316, .int .i64 t317, .int .i64 t318, .int .i64 t319, .int .i64 t320, .int .i64 t321] 24 (0, 0)) (by (with_reducible repeat (first | refine blk_drewN ?_ _ | refine blk_drew ?_ | refine blk_alloc ?_ _ | refine blk_far ?_ NB324_358.out _)); exact BK324.out) hb); have n1_ := Aside0.mk (blk_below (g := gb335) (o := .cells #[.int .i64 t325, .int .i64 t326, .int .i64 t327, .int .i64 t328, .int .i64 t329, .int .i64 t330, .int .i64 t331, .int .i64 t332, .int .i64 t333] 24 (0, 0)) (by (with_reducible repeat (first | refine blk_drewN ?_ _ | refine blk_drew ?_ | refine blk_alloc ?_ _ | refine blk_far ?_ NB335_358.out _)); exact BK335.out) hb); have n2_ := Aside0.mk (blk_below (g := gb346) (o := .cells #[.int .i64 t336, .int .i64 t337, .int .i64 t338, .int .i64 t339, .int .i64 t340, .int .i64 t341, .int .i64 t342, .int .i64 t343, .int .i64 t344] 24 (0, 0)) (by (with_reducible repeat (first | refine blk_drewN ?_ _ | refine blk_drew ?_ | refine blk_alloc ?_ _ | refine blk_far ?_ NB346_358.out _)); exact BK346.out) hb); have n3_ := Aside0.mk (blk_below (g := gb353) (o := .cells #[.int .i64 t349, .int .i64 t350, .int .i64 t351, .int .i64 t352] 31 (0, 0)) (by (with_reducible repeat (first | refine blk_drewN ?_ _ | refine blk_drew ?_ | refine blk_alloc ?_ _ | refine blk_far ?_ NB353_358.out _)); exact BK353.out) hb); have n4_ := Aside0.mk (blk_below (g := gb358) (o := .cells #[.int .i64 t354, .int .i64 t355, .int .i64 t356, .int .i64 t357] 31 (0, 0)) (by (with_reducible repeat (first | refine blk_drewN ?_ _ | refine blk_drew ?_ | refine blk_alloc ?_ _)); refine blk_put (cs := #[.int .i64 t354, .int .i64 t355, .int .i64 t356, .int .i64 0]) ?_ 3 _ rfl; (with_reducible repeat (first | refine blk_drewN ?_ _ | refine blk_drew ?_ | refine blk_alloc ?_ _)); refine blk_put (cs := #[.int .i64 t354, .int .i64 t355, .int .i64 0, .int .i64 0]) ?_ 2 _ rfl; (with_reducible repeat (first | refine blk_drewN ?_ _ | refine blk_drew ?_ | refine blk_alloc ?_ _)); refine blk_put (cs := #[.int .i64 t354, .int .i64 0, .int .i64 0, .int .i64 0]) ?_ 1 _ rfl; (with_reducible repeat (first | refine blk_drewN ?_ _ | refine blk_drew ?_ | refine blk_alloc ?_ _)); refine blk_put (cs := #[.int .i64 0, .int .i64 0, .int .i64 0, .int .i64 0]) ?_ 0 _ rfl; (with_reducible repeat (first | refine blk_drewN ?_ _ | refine blk_drew ?_ | refine blk_alloc ?_ _)); exact BK358.out) hb); have n5_ := Aside0.mk (below_step (by repeat (first | (with_reducible first | exact HB.out | apply below_alloc | apply pw_below_drewN | apply below_drew1 | refine below_set ?_ GE324.out | refine below_set ?_ GE335.out | refine below_set ?_ GE346.out | refine below_set ?_ GE353.out | refine below_set ?_ GE358.out) | exact HB.out)) hb); clear BK324; clear BK335; clear BK346; clear BK353; clear BK358; clear HB; have BK324 := n0_; have BK335 := n1_; have BK346 := n2_; have BK353 := n3_; have BK358 := n4_; have HB := n5_; clear n0_ n1_ n2_ n3_ n4_ n5_; (try clear hb); (try clear hb2); (try clear hk); (try clear hi)) | ((with_reducible refine gate_dst (N := 12) rfl ?_); refine box_event ?hg (N := 12) ?hd (cs := #[.int .i64 0, .int .i64 0, .int .i64 0, .int .i64 0]) (t := 31) ?hr ?_; (case hd => rfl); (case hg => rfl); (case hr => first | (go_simp; done) | (go_simp; rfl)); intro gb363 hg w81 hbox hb; have n0_ := Aside0.mk (blk_below (g := gb324) (o := .cells #[.int .i64 t313, .int .i64 t314, .int .i64 t315, .int .i64 t316, .int .i64 t317, .int .i64 t318, .int .i64 t319, .int .i64 t320, .int .i64 t321] 24 (0, 0)) (by (with_reducible repeat (first | refine blk_drewN ?_ _ | refine blk_drew ?_ | refine blk_alloc ?_ _)); exact BK324.out) hb); have n1_ := Aside0.mk (blk_below (g := gb335) (o := .cells #[.int .i64 t325, .int .i64 t326, .int .i64 t327, .int .i64 t328, .int .i64 t329, .int .i64 t330, .int .i64 t331, .int .i64 t332, .int .i64 t333] 24 (0, 0)) (by (with_reducible repeat (first | refine blk_drewN ?_ _ | refine blk_drew ?_ | refine blk_alloc ?_ _)); exact BK335.out) hb); have n2_ := Aside0.mk (blk_below (g := gb346) (o := .cells #[.int .i64 t336, .int .i64 t337, .int .i64 t338, .int .i64 t339, .int .i64 t340, .int .i64 t341, .int .i64 t342, .int .i64 t343, .int .i64 t344] 24 (0, 0)) (by (with_reducible repeat (first | refine blk_drewN ?_ _ | refine blk_drew ?_ | refine blk_alloc ?_ _)); exact BK346.out) hb); have n3_ := Aside0.mk (blk_below (g := gb353) (o := .cells #[.int .i64 t349, .int .i64 t350, .int .i64 t351, .int .i64 t352] 31 (0, 0)) (by (with_reducible repeat (first | refine blk_drewN ?_ _ | refine blk_drew ?_ | refine blk_alloc ?_ _)); exact BK353.out) hb); have n4_ := Aside0.mk (blk_below (g := gb358) (o := .cells #[.int .i64 t354, .int .i64 t355, .int .i64 t356, .int .i64 t357] 31 (0, 0)) (by (with_reducible repeat (first | refine blk_drewN ?_ _ | refine blk_drew ?_ | refine blk_alloc ?_ _)); exact BK358.out) hb); have n5_ := Aside0.mk (below_step (by repeat (first | (with_reducible first | exact HB.out | apply below_alloc | apply pw_below_drewN | apply below_drew1 | refine below_set ?_ GE324.out | refine below_set ?_ GE335.out | refine below_set ?_ GE346.out | refine below_set ?_ GE353.out | refine below_set ?_ GE358.out) | exact HB.out)) hb); have n6_ := Aside0.mk (hbox); have n7_ := Aside0.mk ((by rw [hg]; exact (below_size (by repeat (first | (with_reducible first | exact HB.out | apply below_alloc | apply pw_below_drewN | apply below_drew1 | refine below_set ?_ GE324.out | refine below_set ?_ GE335.out | refine below_set ?_ GE346.out | refine below_set ?_ GE353.out | refine below_set ?_ GE358.out) | exact HB.out))) : w.heap.size ≤ gb363)); have n8_ := Aside0.mk ((by rw [hg]; exact (below_size (by repeat (first | (with_reducible first | exact HB.out | apply below_alloc | apply pw_below_drewN | apply below_drew1 | refine below_set ?_ GE324.out | refine below_set ?_ GE335.out | refine below_set ?_ GE346.out | refine below_set ?_ GE353.out | refine below_set ?_ GE358.out) | exact HB.out))) : w.heap.size ≤ gb363)); have n9_ := Aside0.mk ((by rw [hg]; exact Nat.ne_of_lt (blk_lt (g := gb324) (o := .cells #[.int .i64 t313, .int .i64 t314, .int .i64 t315, .int .i64 t316, .int .i64 t317, .int .i64 t318, .int .i64 t319, .int .i64 t320, .int .i64 t321] 24 (0, 0)) (by (with_reducible repeat (first | refine blk_drewN ?_ _ | refine blk_drew ?_ | refine blk_alloc ?_ _)); exact BK324.out)) : gb324 ≠ gb363)); have n10_ := Aside0.mk ((by rw [hg]; exact Nat.ne_of_gt (blk_lt (g := gb324) (o := .cells #[.int .i64 t313, .int .i64 t314, .int .i64 t315, .int .i64 t316, .int .i64 t317, .int .i64 t318, .int .i64 t319, .int .i64 t320, .int .i64 t321] 24 (0, 0)) (by (with_reducible repeat (first | refine blk_drewN ?_ _ | refine blk_drew ?_ | refine blk_alloc ?_ _)); exact BK324.out)) : gb363 ≠ gb324)); have n11_ := Aside0.mk ((by rw [hg]; exact Nat.ne_of_lt (blk_lt (g := gb335) (o := .cells #[.int .i64 t325, .int .i64 t326, .int .i64 t327, .int .i64 t328, .int .i64 t329, .int .i64 t330, .int .i64 t331, .int .i64 t332, .int .i64 t333] 24 (0, 0)) (by (with_reducible repeat (first | refine blk_drewN ?_ _ | refine blk_drew ?_ | refine blk_alloc ?_ _)); exact BK335.out)) : gb335 ≠ gb363)); have n12_ := Aside0.mk ((by rw [hg]; exact Nat.ne_of_gt (blk_lt (g := gb335) (o := .cells #[.int .i64 t325, .int .i64 t326, .int .i64 t327, .int .i64 t328, .int .i64 t329, .int .i64 t330, .int .i64 t331, .int .i64 t332, .int .i64 t333] 24 (0, 0)) (by (with_reducible repeat (first | refine blk_drewN ?_ _ | refine blk_drew ?_ | refine blk_alloc ?_ _)); exact BK335.out)) : gb363 ≠ gb335)); have n13_ := Aside0.mk ((by rw [hg]; exact Nat.ne_of_lt (blk_lt (g := gb346) (o := .cells #[.int .i64 t336, .int .i64 t337, .int .i64 t338, .int .i64 t339, .int .i64 t340, .int .i64 t341, .int .i64 t342, .int .i64 t343, .int .i64 t344] 24 (0, 0)) (by (with_reducible repeat (first | refine blk_drewN ?_ _ | refine blk_drew ?_ | refine blk_alloc ?_ _)); exact BK346.out)) : gb346 ≠ gb363)); have n14_ := Aside0.mk ((by rw [hg]; exact Nat.ne_of_gt (blk_lt (g := gb346) (o := .cells #[.int .i64 t336, .int .i64 t337, .int .i64 t338, .int .i64 t339, .int .i64 t340, .int .i64 t341, .int .i64 t342, .int .i64 t343, .int .i64 t344] 24 (0, 0)) (by (with_reducible repeat (first | refine blk_drewN ?_ _ | refine blk_drew ?_ | refine blk_alloc ?_ _)); exact BK346.out)) : gb363 ≠ gb346)); have n15_ := Aside0.mk ((by rw [hg]; exact Nat.ne_of_lt (blk_lt (g := gb353) (o := .cells #[.int .i64 t349, .int .i64 t350, .int .i64 t351, .int .i64 t352] 31 (0, 0)) (by (with_reducible repeat (first | refine blk_drewN ?_ _ | refine blk_drew ?_ | refine blk_alloc ?_ _)); exact BK353.out)) : gb353 ≠ gb363)); have n16_ := Aside0.mk ((by rw [hg]; exact Nat.ne_of_gt (blk_lt (g := gb353) (o := .cells #[.int .i64 t349, .int .i64 t350, .int .i64 t351, .int .i64 t352] 31 (0, 0)) (by (with_reducible repeat (first | refine blk_drewN ?_ _ | refine blk_drew ?_ | refine blk_alloc ?_ _)); exact BK353.out)) : gb363 ≠ gb353)); have n17_ := Aside0.mk ((by rw [hg]; exact Nat.ne_of_lt (blk_lt (g := gb358) (o := .cells #[.int .i64 t354, .int .i64 t355, .int .i64 t356, .int .i64 t357] 31 (0, 0)) (by (with_reducible repeat (first | refine blk_drewN ?_ _ | refine blk_drew ?_ | refine blk_alloc ?_ _)); exact BK358.out)) : gb358 ≠ gb363)); have n18_ := Aside0.mk ((by rw [hg]; exact Nat.ne_of_gt (blk_lt (g := gb358) (o := .cells #[.int .i64 t354, .int .i64 t355, .int .i64 t356, .int .i64 t357] 31 (0, 0)) (by (with_reducible repeat (first | refine blk_drewN ?_ _ | refine blk_drew ?_ | refine blk_alloc ?_ _)); exact BK358.out)) : gb363 ≠ gb358)); clear BK324; clear BK335; clear BK346; clear BK353; clear BK358; clear HB; have BK324 := n0_; have BK335 := n1_; have BK346 := n2_; have BK353 := n3_; have BK358 := n4_; have HB := n5_; have BK363 := n6_; have GW363 := n7_; have GE363 := n8_; have NB324_363 := n9_; have NB363_324 := n10_; have NB335_363 := n11_; have NB363_335 := n12_; have NB346_363 := n13_; have NB363_346 := n14_; have NB353_363 := n15_; have NB363_353 := n16_; have NB358_363 := n17_; have NB363_358 := n18_; clear n0_ n1_ n2_ n3_ n4_ n5_ n6_ n7_ n8_ n9_ n10_ n11_ n12_ n13_ n14_ n15_ n16_ n17_ n18_; clear hb hbox hg; have hnb82 := NB363_324.out; have hnc82 := NB324_363.out; have hnb83 := NB363_335.out; have hnc83 := NB335_363.out; have hnb84 := NB363_346.out; have hnc84 := NB346_363.out; have hnb85 := NB363_353.out; have hnc85 := NB353_363.out; have hnb86 := NB363_358.out; have hnc86 := NB358_363.out; have hcz87_0 : w81.cell? ⟨gb363, 0, none⟩ = some (.int .i64 0) := (blk_cell BK363.out 0).trans rfl; have hcz87_1 : w81.cell? ⟨gb363, 1, none⟩ = some (.int .i64 0) := (blk_cell BK363.out 1).trans rfl; have hcz87_2 : w81.cell? ⟨gb363, 2, none⟩ = some (.int .i64 0) := (blk_cell BK363.out 2).trans rfl; have hcz87_3 : w81.cell? ⟨gb363, 3, none⟩ = some (.int .i64 0) := (blk_cell BK363.out 3).trans rfl; have hfz87_0 := blk_frozen BK363.out 0; have hfz87_1 := blk_frozen BK363.out 1; have hfz87_2 := blk_frozen BK363.out 2; have hfz87_3 := blk_frozen BK363.out 3; have hcz88_0 : w81.cell? ⟨gb353, 0, none⟩ = some (.int .i64 t349) := (blk_cell BK353.out 0).trans rfl; have hcz88_1 : w81.cell? ⟨gb353, 1, none⟩ = some (.int .i64 t350) := (blk_cell BK353.out 1).trans rfl; have hcz88_2 : w81.cell? ⟨gb353, 2, none⟩ = some (.int .i64 t351) := (blk_cell BK353.out 2).trans rfl; have hcz88_3 : w81.cell? ⟨gb353, 3, none⟩ = some (.int .i64 t352) := (blk_cell BK353.out 3).trans rfl; have hfz88_0 := blk_frozen BK353.out 0; have hfz88_1 := blk_frozen BK353.out 1; have hfz88_2 := blk_frozen BK353.out 2; have hfz88_3 := blk_frozen BK353.out 3; have hcz89_0 : w81.cell? ⟨gb358, 0, none⟩ = some (.int .i64 t354) := (blk_cell BK358.out 0).trans rfl; have hcz89_1 : w81.cell? ⟨gb358, 1, none⟩ = some (.int .i64 t355) := (blk_cell BK358.out 1).trans rfl; have hcz89_2 : w81.cell? ⟨gb358, 2, none⟩ = some (.int .i64 t356) := (blk_cell BK358.out 2).trans rfl; have hcz89_3 : w81.cell? ⟨gb358, 3, none⟩ = some (.int .i64 t357) := (blk_cell BK358.out 3).trans rfl; have hfz89_0 := blk_frozen BK358.out 0; have hfz89_1 := blk_frozen BK358.out 1; have hfz89_2 := blk_frozen BK358.out 2; have hfz89_3 := blk_frozen BK358.out 3; have hcz90_0 : w81.cell? ⟨gb335, 0, none⟩ = some (.int .i64 t325) := (blk_cell BK335.out 0).trans rfl; have hcz90_1 : w81.cell? ⟨gb335, 1, none⟩ = some (.int .i64 t326) := (blk_cell BK335.out 1).trans rfl; have hcz90_2 : w81.cell? ⟨gb335, 2, none⟩ = some (.int .i64 t327) := (blk_cell BK335.out 2).trans rfl; have hcz90_3 : w81.cell? ⟨gb335, 3, none⟩ = some (.int .i64 t328) := (blk_cell BK335.out 3).trans rfl; have hcz90_4 : w81.cell? ⟨gb335, 4, none⟩ = some (.int .i64 t329) := (blk_cell BK335.out 4).trans rfl; have hcz90_5 : w81.cell? ⟨gb335, 5, none⟩ = some (.int .i64 t330) := (blk_cell BK335.out 5).trans rfl; have hcz90_6 : w81.cell? ⟨gb335, 6, none⟩ = some (.int .i64 t331) := (blk_cell BK335.out 6).trans rfl; have hcz90_7 : w81.cell? ⟨gb335, 7, none⟩ = some (.int .i64 t332) := (blk_cell BK335.out 7).trans rfl; have hcz90_8 : w81.cell? ⟨gb335, 8, none⟩ = some (.int .i64 t333) := (blk_cell BK335.out 8).trans rfl; have hfz90_0 := blk_frozen BK335.out 0; have hfz90_1 := blk_frozen BK335.out 1; have hfz90_2 := blk_frozen BK335.out 2; have hfz90_3 := blk_frozen BK335.out 3; have hfz90_4 := blk_frozen BK335.out 4; have hfz90_5 := blk_frozen BK335.out 5; have hfz90_6 := blk_frozen BK335.out 6; have hfz90_7 := blk_frozen BK335.out 7; have hfz90_8 := blk_frozen BK335.out 8))
       go_ret
       exact ⟨by first | rfl | (simp [errW_none, errW_some] <;> rfl) | (simp [*, errW_none, errW_some] <;> rfl), by repeat (first | (with_reducible first | exact HB.out | apply below_alloc | apply pw_below_drewN | apply below_drew1 | refine below_set ?_ GE324.out | refine below_set ?_ GE335.out | refine below_set ?_ GE346.out | refine below_set ?_ GE353.out | refine below_set ?_ GE358.out | refine below_set ?_ GE363.out) | exact HB.out)⟩
      ·
       rw [if_neg c60] at H
       exact absurd ((Option.some.inj H).trans HR.out) (by decide)
     ·
      rw [if_neg c59] at H
      exact absurd ((Option.some.inj H).trans HR.out) (by decide)
/-- THE ONE PURE STATEMENT of laws_FnFixPlace: yours. -/
def laws_FnFixPlace.Pure : Prop := ∀ (l0 : List Int), l0.length ≤ maxLen → l0.length * 1 ≤ 140737488351232 → (∀ x ∈ l0, (Lit.int .u8 x).wf = true) → ∃ k, laws_FnFixPlace.f k l0 = some true
theorem laws_FnFixPlace.walk (P : laws_FnFixPlace.Pure) (a0 : Option Addr) (len0 cap0 : Nat) (z0 : List Int) (w : World) (w0 : (a0 = none ∧ len0 = 0 ∧ cap0 = 0 ∧ z0 = []) ∨ ∃ x, a0 = some x ∧ len0 ≤ cap0 ∧ cap0 ≤ maxLen ∧ z0.length = cap0 ∧ (∀ i, i < z0.length → w.cell? (x.add i) = some (.int .u8 (z0.getD i 0))) ∧ ∀ n ∈ z0, (Lit.int .u8 n).wf = true) (y0 : len0 * 1 ≤ 140737488351232) :
  Calls Try.prog 7 #[.slice a0 len0 cap0] w fun e w' => e = .returned (.bool true) ∧ Below w.heap.size w w' := by
 obtain ⟨l0, rfl, hr0, hm0, hw0, hc0⟩ := ReadsInt.ofRowC w0
 obtain ⟨k, h⟩ := P l0 hm0 y0 hw0
 refine (laws_FnFixPlace.calls k _ _ l0 true w (Kd.C_of_reads (d := (0 : Int)) (h1 := fun _ => rfl) hr0) hc0 h rfl).mono ?_
 rintro e w' ⟨rfl, hd⟩
 exact ⟨rfl, hd⟩

end Go.Proofs.Ytnekecbhjlamoaa.PFnFixPlace
