/- Contracts of the functions that FnValidGrid reaches: own text, written by reown.py after the print's pattern. No condition. -/
import Derived.Test.YtnekecbhjlamoaaQFnValidGridx0
import Derived.Test.YtnekecbhjlamoaaQFnValidGridx1
import Derived.Test.YtnekecbhjlamoaaQFnValidGridx2
namespace Go.Proofs.Ytnekecbhjlamoaa.PFnValidGrid
open Go.RowKit Go.Proofs.YtnekecbhjlamoaaW.PrintWords Go.Proofs.YtnekecbhjlamoaaW.PrintLast Go.Proofs.YtnekecbhjlamoaaW.PrintMore
open Go.Proofs.Ytnekecbhjlamoaa.MxMn
attribute [local go_sem] max2_mx min2_mn max_two min_two max_three min_three max_four min_four   -- for this text's walks alone
set_option linter.unusedVariables false
set_option linter.unusedSimpArgs false

/-! ### spec_someGrid: function 82 -/
def spec_someGrid.l0 : Nat → Int → List Int → Int → List (S104) → List (S104) → List (S91) → Option ((List (S104)) × (List (S104)) × (List (S91)) × Int)
  | 0, _, _, _, _, _, _ => none
  | k + 1, x4, x1000, x1001, x197000, x197001, x197002 => if x4 > 0 then ((spec_goodCell.f k x1000 x1001 (x197000.length : Int) (x197001.length : Int)).bind fun bt202 => (if x197002.length < 1954687338268 then (spec_someGrid.l0 k (wrap64 (x4 - 1)) x1000 bt202.2.2.2.2.2.2.2.2.2 x197000 x197001 (x197002 ++ [(⟨bt202.1, bt202.2.1, bt202.2.2.1, bt202.2.2.2.1, bt202.2.2.2.2.1, bt202.2.2.2.2.2.1, bt202.2.2.2.2.2.2.1, bt202.2.2.2.2.2.2.2.1, bt202.2.2.2.2.2.2.2.2.1⟩ : S91)])) else (none))) else ((spec_reader_pick.f k x1000 x1001 24).bind fun bt215 => (if bt215.1 = 0 then ((spec_someLines.f k x1000 bt215.2).bind fun bt217 => (some (bt217.1, x197001, x197002, bt217.2))) else (if bt215.1 = 1 then (if (x197002.length : Int) > 0 then ((spec_reader_one.f k x1000 bt215.2 (([(-1), 16] : List Int))).bind fun bt224 => (if 0 < (x197002.length : Int) then (some (x197000, x197001, (x197002.set (0 : Int).toNat (⟨(rd_T91 x197002 0).f0, (rd_T91 x197002 0).f1, (rd_T91 x197002 0).f2, (rd_T91 x197002 0).f3, (rd_T91 x197002 0).f4, (rd_T91 x197002 0).f5, bt224.1, (rd_T91 x197002 0).f7, (rd_T91 x197002 0).f8⟩ : S91)), bt224.2)) else (none))) else (some (x197000, x197001, x197002, bt215.2))) else (if bt215.1 = 2 then (if (x197002.length : Int) > 0 then ((spec_reader_one.f k x1000 bt215.2 (([0, 6] : List Int))).bind fun bt230 => (if 0 < (x197002.length : Int) then (some (x197000, x197001, (x197002.set (0 : Int).toNat (⟨(rd_T91 x197002 0).f0, (rd_T91 x197002 0).f1, (rd_T91 x197002 0).f2, bt230.1, (rd_T91 x197002 0).f4, (rd_T91 x197002 0).f5, (rd_T91 x197002 0).f6, (rd_T91 x197002 0).f7, (rd_T91 x197002 0).f8⟩ : S91)), bt230.2)) else (none))) else (some (x197000, x197001, x197002, bt215.2))) else (some (x197000, x197001, x197002, bt215.2))))))
def spec_someGrid.f (k : Nat) (s0_0 : List Int) (s0_1 : Int) : Option ((List (S104)) × (List (S104)) × (List (S91)) × Int) := (spec_goodLines.f k s0_0 s0_1).bind fun bt188 => ((spec_goodLines.f k s0_0 bt188.2).bind fun bt192 => ((spec_reader_one.f k s0_0 bt192.2 (([4, 3, 5, 2, 1, 0, 8] : List Int))).bind fun bt200 => (spec_someGrid.l0 k bt200.1 s0_0 bt200.2 bt188.1 bt192.1 ([] : List (S91)))))
theorem spec_someGrid.mono_l : ∀ k, (∀ y0 y1 y2 y3 y4 y5, LeO (spec_someGrid.l0 k y0 y1 y2 y3 y4 y5) (spec_someGrid.l0 (k + 1) y0 y1 y2 y3 y4 y5))
  | 0 => fun _ _ _ _ _ _ r h => by simp [spec_someGrid.l0] at h
  | k + 1 => by
    have ih0 := spec_someGrid.mono_l k
    · intro y0 y1 y2 y3 y4 y5
      unfold spec_someGrid.l0
      repeat' first
      | (with_reducible exact ih0 _ _ _ _ _ _)
      | (with_reducible exact spec_goodCell.mono _ _ _ _ _)
      | (with_reducible exact spec_goodLines.mono _ _ _)
      | (with_reducible exact spec_reader_one.mono _ _ _ _)
      | (with_reducible exact spec_reader_pick.mono _ _ _ _)
      | (with_reducible exact spec_someLines.mono _ _ _)
      | (with_reducible exact LeO.refl _)
      | (with_reducible exact LeO.none _)
      | (with_reducible refine LeO.ite ?_ ?_)
      | (with_reducible refine LeO.bind ?_ (fun _ => ?_))
      | exact ih0 _ _ _ _ _ _
      | exact spec_goodCell.mono _ _ _ _ _
      | exact spec_goodLines.mono _ _ _
      | exact spec_reader_one.mono _ _ _ _
      | exact spec_reader_pick.mono _ _ _ _
      | exact spec_someLines.mono _ _ _
      | exact LeO.none _
      | refine LeO.ite ?_ ?_
      | refine LeO.bind ?_ (fun _ => ?_)
theorem spec_someGrid.mono : ∀ a0 a1 k, LeO (spec_someGrid.f k a0 a1) (spec_someGrid.f (k + 1) a0 a1) := by
  intro a0 a1 k
  have ih0 := spec_someGrid.mono_l k
  unfold spec_someGrid.f
  repeat' first
      | (with_reducible exact ih0 _ _ _ _ _ _)
      | (with_reducible exact spec_goodCell.mono _ _ _ _ _)
      | (with_reducible exact spec_goodLines.mono _ _ _)
      | (with_reducible exact spec_reader_one.mono _ _ _ _)
      | (with_reducible exact spec_reader_pick.mono _ _ _ _)
      | (with_reducible exact spec_someLines.mono _ _ _)
      | (with_reducible exact LeO.refl _)
      | (with_reducible exact LeO.none _)
      | (with_reducible refine LeO.ite ?_ ?_)
      | (with_reducible refine LeO.bind ?_ (fun _ => ?_))
      | exact ih0 _ _ _ _ _ _
      | exact spec_goodCell.mono _ _ _ _ _
      | exact spec_goodLines.mono _ _ _
      | exact spec_reader_one.mono _ _ _ _
      | exact spec_reader_pick.mono _ _ _ _
      | exact spec_someLines.mono _ _ _
      | exact LeO.none _
      | refine LeO.ite ?_ ?_
      | refine LeO.bind ?_ (fun _ => ?_)
def spec_someGrid.T5 : Bool × List (List Nat × List Nat) := (true, [([], []), ([0], [0]), ([], []), ([], []), ([3], [3]), ([4], [4]), ([], []), ([6], [6]), ([7], [7]), ([2, 5, 8], [2, 5, 8]), ([9], [9]), ([1, 10, 9], [1, 10]), ([0, 1, 2, 3, 4, 5, 6, 7, 8, 9, 10, 11], []), ([12, 11, 11, 0, 1, 2, 3, 4, 5, 6, 7, 8, 9, 10, 11], [11, 12])])
def spec_someGrid.B5 : List Nat := [0, 1, 0, 0, 8, 24, 0, 64, 192, 508, 1020, 2047, 4095, 8191]
theorem spec_someGrid.tab5 : rtab .any (opsOf Try.f82 5) = spec_someGrid.T5 := by kernel_rfl
theorem spec_someGrid.bits5 : waitsOk spec_someGrid.T5.2 spec_someGrid.B5 = true := by kernel_rfl
def spec_someGrid.T11 : Bool × List (List Nat × List Nat) := (true, [([], []), ([0], [0]), ([], []), ([], []), ([2, 3], [2, 3]), ([1, 0, 1, 2, 3, 4], [1]), ([5, 0, 1, 2, 3, 4], [5]), ([6, 4, 4, 0, 1, 2, 3, 4], [4, 6])])
def spec_someGrid.B11 : List Nat := [0, 1, 0, 0, 12, 31, 63, 127]
theorem spec_someGrid.tab11 : rtab .any (opsOf Try.f82 11) = spec_someGrid.T11 := by kernel_rfl
theorem spec_someGrid.bits11 : waitsOk spec_someGrid.T11.2 spec_someGrid.B11 = true := by kernel_rfl
def spec_someGrid.T14 : Bool × List (List Nat × List Nat) := (true, [([], []), ([0], [0]), ([], []), ([], []), ([2, 3], [2, 3]), ([1, 0, 1, 2, 3, 4], [1]), ([5, 0, 1, 2, 3, 4], [5]), ([6, 4, 4, 0, 1, 2, 3, 4], [4, 6])])
def spec_someGrid.B14 : List Nat := [0, 1, 0, 0, 12, 31, 63, 127]
theorem spec_someGrid.tab14 : rtab .any (opsOf Try.f82 14) = spec_someGrid.T14 := by kernel_rfl
theorem spec_someGrid.bits14 : waitsOk spec_someGrid.T14.2 spec_someGrid.B14 = true := by kernel_rfl
set_option maxHeartbeats 8000000 in
set_option maxRecDepth 100000 in
theorem spec_someGrid.calls (k : Nat) (g : Nat) (s0_0 : List Int) (s0_1 : Int) (r1 : List (S104)) (r2 : List (S104)) (r3 : List (S91)) (r4 : Int) (w0 w : World) (hI : IsS98 w0 w g s0_0 s0_1) (hB : Below w0.heap.size w0 w) (h : spec_someGrid.f k s0_0 s0_1 = some (r1, r2, r3, r4)) :
    Calls Try.prog 82 #[.pointer (some ⟨g, 0, none⟩)] w fun e w' => ∃ v0_ v1_ v2_ : Value, e = .returned (.agg #[v0_, v1_, v2_]) ∧ Kd.R k104 104 w' w.heap.size (fun k_ => some k_ ≠ (v1_ : Value).ownBlock) v0_ r1 ∧ Kd.R k104 104 w' w.heap.size (fun k_ => some k_ ≠ (v0_ : Value).ownBlock) v1_ r2 ∧ Kd.R k91 91 w' w.heap.size (fun _ => True) v2_ r3 ∧ IsS98 w0 w' g s0_0 r4 ∧ Below w0.heap.size w0 w' ∧ KeepBut w w' g none := by
  have hu62 := Try.underlying62
  have HI0 := Aside0.mk hI
  have HK := Aside0.mk (KeepBut.refl w g none)
  have HL := Aside0.mk hB.size
  clear hI
  have HW0 := Aside0.mk hB.size
  have HB := Aside0.mk hB
  clear hB
  have H : ((spec_goodLines.f k s0_0 s0_1).bind fun bt188 => ((spec_goodLines.f k s0_0 bt188.2).bind fun bt192 => ((spec_reader_one.f k s0_0 bt192.2 (([4, 3, 5, 2, 1, 0, 8] : List Int))).bind fun bt200 => (spec_someGrid.l0 k bt200.1 s0_0 bt200.2 bt188.1 bt192.1 ([] : List (S91)))))) = some (r1, r2, r3, r4) := h
  clear h
  replace H := Option.bind_eq_some_iff.mp H
  obtain ⟨⟨t188, t191⟩, A20, H⟩ := H
  replace H : ((spec_goodLines.f k s0_0 t191).bind fun bt192 => ((spec_reader_one.f k s0_0 bt192.2 (([4, 3, 5, 2, 1, 0, 8] : List Int))).bind fun bt200 => (spec_someGrid.l0 k bt200.1 s0_0 bt200.2 t188 bt192.1 ([] : List (S91))))) = some (r1, r2, r3, r4) := H
  have A2 := Aside0.mk A20
  clear A20
  replace H := Option.bind_eq_some_iff.mp H
  obtain ⟨⟨t192, t195⟩, A30, H⟩ := H
  replace H : ((spec_reader_one.f k s0_0 t195 (([4, 3, 5, 2, 1, 0, 8] : List Int))).bind fun bt200 => (spec_someGrid.l0 k bt200.1 s0_0 bt200.2 t188 t192 ([] : List (S91)))) = some (r1, r2, r3, r4) := H
  have A3 := Aside0.mk A30
  clear A30
  obtain ⟨y197, hy197⟩ : ∃ y_ : List Int, y_ = (([4, 3, 5, 2, 1, 0, 8] : List Int)) := ⟨_, rfl⟩
  replace H : ((spec_reader_one.f k s0_0 t195 y197).bind fun bt200 => (spec_someGrid.l0 k bt200.1 s0_0 bt200.2 t188 t192 ([] : List (S91)))) = some (r1, r2, r3, r4) := by first | (rw [hy197]; with_reducible exact H) | (have H2_ := (Option.bind_some _ _).symm.trans H; rw [hy197]; with_reducible exact H2_) | (have H2_ := (Option.bind_some _ _).symm.trans H; with_reducible exact H2_) | with_reducible exact H | (rw [hy197]; exact H) | exact H
  have Ny197 := Aside0.mk hy197
  clear hy197
  replace H := Option.bind_eq_some_iff.mp H
  obtain ⟨⟨t200, t201⟩, A40, H⟩ := H
  replace H : (spec_someGrid.l0 k t200 s0_0 t201 t188 t192 ([] : List (S91))) = some (r1, r2, r3, r4) := H
  have A4 := Aside0.mk A40
  clear A40
  have H' := Aside0.mk H
  clear H
  go_enter Try.func82, Try.ntmps82
  go_wp2_with (first | ((with_reducible refine gate_dst (N := 2) rfl ?_); refine box_event ?hg (N := 2) ?hd (cs := #[.slice none 0 0, .slice none 0 0, .slice none 0 0]) (t := 62) ?hr ?_; (case hd => rfl); (case hg => rfl); (case hr => first | (go_simp; done) | (go_simp; rfl)); intro gb187 hg w5 hbox hb; have n0_ := Aside0.mk (IsS98.below (by repeat (first | (with_reducible first | exact HI0.out | apply IsS98.alloc | apply IsS98.drewN | apply IsS98.drew | apply IsS98.set_1) | exact HI0.out)) hb); have n1_ := Aside0.mk (KeepBut.trans (by repeat (first | (with_reducible first | exact HK.out | apply KeepBut.set_ | apply keep_drewN | apply keep_drew | apply keep_alloc) | exact HK.out)) (KeepBut.of_below hb g none) (.inl rfl)); have n2_ := Aside0.mk (below_step (by repeat (first | (with_reducible first | exact HB.out | apply below_alloc | apply pw_below_drewN | apply below_drew1 | refine below_set ?_ (IsS98.ge HI0.out)) | exact HB.out)) hb); have n3_ := Aside0.mk (hbox); have n4_ := Aside0.mk ((by rw [hg]; exact (keep_size (w := w) (g := g) (row := none) (by repeat (first | (with_reducible first | exact HK.out | apply KeepBut.set_ | apply keep_drewN | apply keep_drew | apply keep_alloc) | exact HK.out))) : w.heap.size ≤ gb187)); have n5_ := Aside0.mk ((Nat.le_trans HW0.out (by rw [hg]; exact (keep_size (w := w) (g := g) (row := none) (by repeat (first | (with_reducible first | exact HK.out | apply KeepBut.set_ | apply keep_drewN | apply keep_drew | apply keep_alloc) | exact HK.out))) : w.heap.size ≤ gb187) : w0.heap.size ≤ gb187)); have n6_ := Aside0.mk ((by rw [hg]; exact Nat.ne_of_lt (IsS98.lt (show IsS98 w0 _ g s0_0 s0_1 from by repeat (first | (with_reducible first | exact HI0.out | apply IsS98.alloc | apply IsS98.drewN | apply IsS98.drew | apply IsS98.set_1) | exact HI0.out))) : g ≠ gb187)); have n7_ := Aside0.mk ((by rw [hg]; exact Nat.ne_of_gt (IsS98.lt (show IsS98 w0 _ g s0_0 s0_1 from by repeat (first | (with_reducible first | exact HI0.out | apply IsS98.alloc | apply IsS98.drewN | apply IsS98.drew | apply IsS98.set_1) | exact HI0.out))) : gb187 ≠ g)); clear HI0; clear HK; clear HB; have HI0 := n0_; have HK := n1_; have HB := n2_; have BK187 := n3_; have GW187 := n4_; have GE187 := n5_; have NB0_187 := n6_; have NB187_0 := n7_; clear n0_ n1_ n2_ n3_ n4_ n5_ n6_ n7_; clear hb hbox hg) | ((with_reducible refine gate_callee (f := 99) rfl ?_); refine goesL_ (some 6) rfl rfl Try.func99 (by kernel_rfl) rfl #[.pointer (some ⟨g, 0, none⟩)] rfl (by (try simp only [List.map_toArray, List.map_cons, List.map_nil]); first | done | rfl | (simp only [List.length_drop, List.length_take]; rfl)) ?_; (with_reducible refine (spec_goodLines.calls k g s0_0 s0_1 t188 t191 w0 _ ?side1 ?side2 A2.out).mono ?_); (case side1 => repeat (first | (with_reducible first | exact HI0.out | apply IsS98.alloc | apply IsS98.drewN | apply IsS98.drew | apply IsS98.set_1 | refine IsS98.far ?_ NB0_187.out _) | exact HI0.out)); (case side2 => repeat (first | (with_reducible first | exact HB.out | apply below_alloc | apply pw_below_drewN | apply below_drew1 | refine below_set ?_ (IsS98.ge HI0.out) | refine below_set ?_ GE187.out) | exact HB.out)); rintro e w6 ⟨v189, rfl, ho0, hi, hb, hk⟩; refine ⟨_, rfl, ?_⟩; have n0_ := Aside0.mk (KeepBut.blk hk (g' := gb187) (o := .cells #[.slice none 0 0, .slice none 0 0, .slice none 0 0] 62 (0, 0)) (by (with_reducible repeat (first | refine blk_drewN ?_ _ | refine blk_drew ?_ | refine blk_alloc ?_ _)); exact BK187.out) NB187_0.out (by simp)); have n1_ := Aside0.mk (Kd.R_lower ho0 (keep_size (w := w) (g := g) (row := none) (by repeat (first | (with_reducible first | exact HK.out | apply KeepBut.set_ | apply keep_drewN | apply keep_drew | apply keep_alloc | refine keep_far ?_ GW187.out _) | exact HK.out)))); have n2_ := Aside0.mk (KeepBut.trans (by repeat (first | (with_reducible first | exact HK.out | apply KeepBut.set_ | apply keep_drewN | apply keep_drew | apply keep_alloc | refine keep_far ?_ GW187.out _) | exact HK.out)) hk (.inl rfl)); have n3_ := Aside0.mk (hb); have n4_ := Aside0.mk (hi); clear BK187; clear HK; clear HB; clear HI0; have BK187 := n0_; have HO190 := n1_; have HK := n2_; have HB := n3_; have HI0 := n4_; clear n0_ n1_ n2_ n3_ n4_; (try clear hb); (try clear hb2); (try clear hk); (try clear hi); (try clear ho0)) | ((with_reducible refine gate_callee (f := 99) rfl ?_); refine goesL_ (some 8) rfl rfl Try.func99 (by kernel_rfl) rfl #[.pointer (some ⟨g, 0, none⟩)] rfl (by (try simp only [List.map_toArray, List.map_cons, List.map_nil]); first | done | rfl | (simp only [List.length_drop, List.length_take]; rfl)) ?_; (with_reducible refine (spec_goodLines.calls k g s0_0 t191 t192 t195 w0 _ ?side1 ?side2 A3.out).mono ?_); (case side1 => repeat (first | (with_reducible first | exact HI0.out | apply IsS98.alloc | apply IsS98.drewN | apply IsS98.drew | apply IsS98.set_1 | refine IsS98.far ?_ NB0_187.out _) | exact HI0.out)); (case side2 => repeat (first | (with_reducible first | exact HB.out | apply below_alloc | apply pw_below_drewN | apply below_drew1 | refine below_set ?_ (IsS98.ge HI0.out) | refine below_set ?_ GE187.out) | exact HB.out)); rintro e w7 ⟨v193, rfl, ho0, hi, hb, hk⟩; refine ⟨_, rfl, ?_⟩; have n0_ := Aside0.mk (KeepBut.blk hk (g' := gb187) (o := .cells #[.slice none 0 0, .slice none 0 0, .slice none 0 0] 62 (0, 0)) (by (with_reducible repeat (first | refine blk_drewN ?_ _ | refine blk_drew ?_ | refine blk_alloc ?_ _)); exact BK187.out) NB187_0.out (by simp)); have n1_ := Aside0.mk (Kd.R_mono (Kd.R_told (Kd.R_oldK (IsS98.apart (show IsS98 w0 _ g s0_0 t191 from by repeat (first | (with_reducible first | exact HI0.out | apply IsS98.alloc | apply IsS98.drewN | apply IsS98.drew | apply IsS98.set_1 | refine IsS98.far ?_ NB0_187.out _) | exact HI0.out)) (by (with_reducible repeat (first | apply Kd.R_alloc | apply Kd.R_drewN | apply Kd.R_drew)); exact HO190.out) (by decide)) hk) (Kd.R_base ho0)) (fun _ h_ => h_.1)); have n2_ := Aside0.mk (Kd.R_lower (Kd.R_new' ho0 (Kd.R_lt (by (with_reducible repeat (first | apply Kd.R_alloc | apply Kd.R_drewN | apply Kd.R_drew)); exact HO190.out))) (keep_size (w := w) (g := g) (row := none) (by repeat (first | (with_reducible first | exact HK.out | apply KeepBut.set_ | apply keep_drewN | apply keep_drew | apply keep_alloc | refine keep_far ?_ GW187.out _) | exact HK.out)))); have n3_ := Aside0.mk (KeepBut.trans (by repeat (first | (with_reducible first | exact HK.out | apply KeepBut.set_ | apply keep_drewN | apply keep_drew | apply keep_alloc | refine keep_far ?_ GW187.out _) | exact HK.out)) hk (.inl rfl)); have n4_ := Aside0.mk (hb); have n5_ := Aside0.mk (hi); clear BK187; clear HO190; clear HK; clear HB; clear HI0; have BK187 := n0_; have HO190 := n1_; have HO194 := n2_; have HK := n3_; have HB := n4_; have HI0 := n5_; clear n0_ n1_ n2_ n3_ n4_ n5_; (try clear hb); (try clear hb2); (try clear hk); (try clear hi); (try clear ho0); obtain ⟨Ao8, co8, eo8⟩ := Kd.R_slice HO194.out; subst eo8; obtain ⟨Ao9, co9, eo9⟩ := Kd.R_slice HO190.out; subst eo9) | ((with_reducible refine gate_dst (N := 3) rfl ?_); refine box_event ?hg (N := 3) ?hd (cs := #[.slice none 0 0, .slice none 0 0, .slice none 0 0]) (t := 62) ?hr ?_; (case hd => rfl); (case hg => rfl); (case hr => first | (go_simp; done) | (go_simp; rfl)); intro gb196 hg w10 hbox hb; have n0_ := Aside0.mk (Kd.R_below (by (with_reducible repeat (first | apply Kd.R_alloc | apply Kd.R_drewN | apply Kd.R_drew)); exact HO190.out) hb); have n1_ := Aside0.mk (Kd.R_below (by (with_reducible repeat (first | apply Kd.R_alloc | apply Kd.R_drewN | apply Kd.R_drew)); exact HO194.out) hb); have n2_ := Aside0.mk (IsS98.below (by repeat (first | (with_reducible first | exact HI0.out | apply IsS98.alloc | apply IsS98.drewN | apply IsS98.drew | apply IsS98.set_1 | refine IsS98.far ?_ NB0_187.out _) | exact HI0.out)) hb); have n3_ := Aside0.mk (blk_below (g := gb187) (o := .cells #[.slice none 0 0, .slice none 0 0, .slice none 0 0] 62 (0, 0)) (by (with_reducible repeat (first | refine blk_drewN ?_ _ | refine blk_drew ?_ | refine blk_alloc ?_ _)); exact BK187.out) hb); have n4_ := Aside0.mk (KeepBut.trans (by repeat (first | (with_reducible first | exact HK.out | apply KeepBut.set_ | apply keep_drewN | apply keep_drew | apply keep_alloc | refine keep_far ?_ GW187.out _) | exact HK.out)) (KeepBut.of_below hb g none) (.inl rfl)); have n5_ := Aside0.mk (below_step (by repeat (first | (with_reducible first | exact HB.out | apply below_alloc | apply pw_below_drewN | apply below_drew1 | refine below_set ?_ (IsS98.ge HI0.out) | refine below_set ?_ GE187.out) | exact HB.out)) hb); have n6_ := Aside0.mk (hbox); have n7_ := Aside0.mk ((by rw [hg]; exact (keep_size (w := w) (g := g) (row := none) (by repeat (first | (with_reducible first | exact HK.out | apply KeepBut.set_ | apply keep_drewN | apply keep_drew | apply keep_alloc | refine keep_far ?_ GW187.out _) | exact HK.out))) : w.heap.size ≤ gb196)); have n8_ := Aside0.mk ((Nat.le_trans HW0.out (by rw [hg]; exact (keep_size (w := w) (g := g) (row := none) (by repeat (first | (with_reducible first | exact HK.out | apply KeepBut.set_ | apply keep_drewN | apply keep_drew | apply keep_alloc | refine keep_far ?_ GW187.out _) | exact HK.out))) : w.heap.size ≤ gb196) : w0.heap.size ≤ gb196)); have n9_ := Aside0.mk ((by rw [hg]; exact Nat.ne_of_lt (blk_lt (g := gb187) (o := .cells #[.slice none 0 0, .slice none 0 0, .slice none 0 0] 62 (0, 0)) (by (with_reducible repeat (first | refine blk_drewN ?_ _ | refine blk_drew ?_ | refine blk_alloc ?_ _)); exact BK187.out)) : gb187 ≠ gb196)); have n10_ := Aside0.mk ((by rw [hg]; exact Nat.ne_of_gt (blk_lt (g := gb187) (o := .cells #[.slice none 0 0, .slice none 0 0, .slice none 0 0] 62 (0, 0)) (by (with_reducible repeat (first | refine blk_drewN ?_ _ | refine blk_drew ?_ | refine blk_alloc ?_ _)); exact BK187.out)) : gb196 ≠ gb187)); have n11_ := Aside0.mk ((by rw [hg]; exact Nat.ne_of_lt (IsS98.lt (show IsS98 w0 _ g s0_0 t195 from by repeat (first | (with_reducible first | exact HI0.out | apply IsS98.alloc | apply IsS98.drewN | apply IsS98.drew | apply IsS98.set_1 | refine IsS98.far ?_ NB0_187.out _) | exact HI0.out))) : g ≠ gb196)); have n12_ := Aside0.mk ((by rw [hg]; exact Nat.ne_of_gt (IsS98.lt (show IsS98 w0 _ g s0_0 t195 from by repeat (first | (with_reducible first | exact HI0.out | apply IsS98.alloc | apply IsS98.drewN | apply IsS98.drew | apply IsS98.set_1 | refine IsS98.far ?_ NB0_187.out _) | exact HI0.out))) : gb196 ≠ g)); clear HO190; clear HO194; clear HI0; clear BK187; clear HK; clear HB; have HO190 := n0_; have HO194 := n1_; have HI0 := n2_; have BK187 := n3_; have HK := n4_; have HB := n5_; have BK196 := n6_; have GW196 := n7_; have GE196 := n8_; have NB187_196 := n9_; have NB196_187 := n10_; have NB0_196 := n11_; have NB196_0 := n12_; clear n0_ n1_ n2_ n3_ n4_ n5_ n6_ n7_ n8_ n9_ n10_ n11_ n12_; clear hb hbox hg; have hnb11 := NB196_187.out; have hnc11 := NB187_196.out; have hnb12 := NB196_0.out; have hnc12 := NB0_196.out; have hcz13_0 : w10.cell? ⟨gb196, 0, none⟩ = some (.slice none 0 0) := (blk_cell BK196.out 0).trans rfl; have hcz13_1 : w10.cell? ⟨gb196, 1, none⟩ = some (.slice none 0 0) := (blk_cell BK196.out 1).trans rfl; have hcz13_2 : w10.cell? ⟨gb196, 2, none⟩ = some (.slice none 0 0) := (blk_cell BK196.out 2).trans rfl; have hfz13_0 := blk_frozen BK196.out 0; have hfz13_1 := blk_frozen BK196.out 1; have hfz13_2 := blk_frozen BK196.out 2) | ((with_reducible refine gate_dst (N := 11) rfl ?_); refine Kd.R_lit (Kd.int .i64) _ 3 ?hg (N := 11) ?hd (xs := ([4, 3, 5, 2, 1, 0, 8] : List Int)) (inner := [.int .i64 4, .int .i64 3, .int .i64 5, .int .i64 2, .int .i64 1, .int .i64 0, .int .i64 8]) (ok := fun _ => True) (okp := fun _ => True) ?hr ?hp (fun _ hk => hk) trivial (Below.refl _ _) (Nat.le_refl _) (by simp) ?_; (case hd => rfl); (case hg => rfl); (case hr => first | (go_simp; done) | (go_simp; rfl)); (case hp => exact (Reps.one (show Kd.M (Kd.int .i64) _ _ _ 4 [.int .i64 4] from rfl) (Reps.one (show Kd.M (Kd.int .i64) _ _ _ 3 [.int .i64 3] from rfl) (Reps.one (show Kd.M (Kd.int .i64) _ _ _ 5 [.int .i64 5] from rfl) (Reps.one (show Kd.M (Kd.int .i64) _ _ _ 2 [.int .i64 2] from rfl) (Reps.one (show Kd.M (Kd.int .i64) _ _ _ 1 [.int .i64 1] from rfl) (Reps.one (show Kd.M (Kd.int .i64) _ _ _ 0 [.int .i64 0] from rfl) (Reps.one (show Kd.M (Kd.int .i64) _ _ _ 8 [.int .i64 8] from rfl) (Reps.none _ _))))))))); intro v198 w14 ho15 hb hg_ hnew_; clear hg_ hnew_; (first | rw [← Ny197.out] at ho15 | (simp only [Int.reduceToNat] at ho15; rw [← Ny197.out] at ho15)); have n0_ := Aside0.mk (Kd.R_below (by (with_reducible repeat (first | apply Kd.R_alloc | apply Kd.R_drewN | apply Kd.R_drew)); exact (Kd.R_mono (Kd.R_far (p := ⟨gb196, 2, none⟩) (Kd.R_far (p := ⟨gb196, 1, none⟩) (Kd.R_far (p := ⟨gb196, 0, none⟩) (Kd.R_types HO190.out BK196.out (by decide)) (fun _ hk => hk.2) (.slice Ao9 t188.length co9)) (fun _ hk => hk.2) (.slice Ao8 t192.length co8)) (fun _ hk => hk.2) (.slice none 0 0)) (fun _ h_ => h_.1))) hb); have n1_ := Aside0.mk (Kd.R_below (by (with_reducible repeat (first | apply Kd.R_alloc | apply Kd.R_drewN | apply Kd.R_drew)); exact (Kd.R_mono (Kd.R_far (p := ⟨gb196, 2, none⟩) (Kd.R_far (p := ⟨gb196, 1, none⟩) (Kd.R_far (p := ⟨gb196, 0, none⟩) (Kd.R_types HO194.out BK196.out (by decide)) (fun _ hk => hk.2) (.slice Ao9 t188.length co9)) (fun _ hk => hk.2) (.slice Ao8 t192.length co8)) (fun _ hk => hk.2) (.slice none 0 0)) (fun _ h_ => h_.1))) hb); have n2_ := Aside0.mk (Kd.R_lower ho15 (keep_size (w := w) (g := g) (row := none) (by repeat (first | (with_reducible first | exact HK.out | apply KeepBut.set_ | apply keep_drewN | apply keep_drew | apply keep_alloc | refine keep_far ?_ GW187.out _ | refine keep_far ?_ GW196.out _) | exact HK.out)))); have n3_ := Aside0.mk (IsS98.below (show IsS98 w0 (((w10.setCell ⟨gb196, 0, none⟩ (.slice Ao9 t188.length co9)).setCell ⟨gb196, 1, none⟩ (.slice Ao8 t192.length co8)).setCell ⟨gb196, 2, none⟩ (.slice none 0 0)) g s0_0 t195 from by repeat (first | (with_reducible first | exact HI0.out | apply IsS98.alloc | apply IsS98.drewN | apply IsS98.drew | apply IsS98.set_1 | refine IsS98.far ?_ NB0_187.out _ | refine IsS98.far ?_ NB0_196.out _) | exact HI0.out)) hb); have n4_ := Aside0.mk (blk_below (g := gb187) (o := .cells #[.slice none 0 0, .slice none 0 0, .slice none 0 0] 62 (0, 0)) (by (with_reducible repeat (first | refine blk_drewN ?_ _ | refine blk_drew ?_ | refine blk_alloc ?_ _)); refine blk_far ?_ NB187_196.out _; (with_reducible repeat (first | refine blk_drewN ?_ _ | refine blk_drew ?_ | refine blk_alloc ?_ _)); refine blk_far ?_ NB187_196.out _; (with_reducible repeat (first | refine blk_drewN ?_ _ | refine blk_drew ?_ | refine blk_alloc ?_ _)); refine blk_far ?_ NB187_196.out _; (with_reducible repeat (first | refine blk_drewN ?_ _ | refine blk_drew ?_ | refine blk_alloc ?_ _)); exact BK187.out) hb); have n5_ := Aside0.mk (blk_below (g := gb196) (o := .cells #[.slice Ao9 t188.length co9, .slice Ao8 t192.length co8, .slice none 0 0] 62 (0, 0)) (by (with_reducible repeat (first | refine blk_drewN ?_ _ | refine blk_drew ?_ | refine blk_alloc ?_ _)); refine blk_put (cs := #[.slice Ao9 t188.length co9, .slice Ao8 t192.length co8, .slice none 0 0]) ?_ 2 _ rfl; (with_reducible repeat (first | refine blk_drewN ?_ _ | refine blk_drew ?_ | refine blk_alloc ?_ _)); refine blk_put (cs := #[.slice Ao9 t188.length co9, .slice none 0 0, .slice none 0 0]) ?_ 1 _ rfl; (with_reducible repeat (first | refine blk_drewN ?_ _ | refine blk_drew ?_ | refine blk_alloc ?_ _)); refine blk_put (cs := #[.slice none 0 0, .slice none 0 0, .slice none 0 0]) ?_ 0 _ rfl; (with_reducible repeat (first | refine blk_drewN ?_ _ | refine blk_drew ?_ | refine blk_alloc ?_ _)); exact BK196.out) hb); have n6_ := Aside0.mk (KeepBut.trans (by repeat (first | (with_reducible first | exact HK.out | apply KeepBut.set_ | apply keep_drewN | apply keep_drew | apply keep_alloc | refine keep_far ?_ GW187.out _ | refine keep_far ?_ GW196.out _) | exact HK.out)) (KeepBut.of_below hb g none) (.inl rfl)); have n7_ := Aside0.mk (below_step (by repeat (first | (with_reducible first | exact HB.out | apply below_alloc | apply pw_below_drewN | apply below_drew1 | refine below_set ?_ (IsS98.ge HI0.out) | refine below_set ?_ GE187.out | refine below_set ?_ GE196.out) | exact HB.out)) hb); clear HO190; clear HO194; clear HI0; clear BK187; clear BK196; clear HK; clear HB; have HO190 := n0_; have HO194 := n1_; have HO199 := n2_; have HI0 := n3_; have BK187 := n4_; have BK196 := n5_; have HK := n6_; have HB := n7_; clear n0_ n1_ n2_ n3_ n4_ n5_ n6_ n7_; clear hb ho15; obtain ⟨Ao16, co16, eo16⟩ := Kd.R_slice HO199.out; subst eo16) | ((with_reducible refine gate_callee (f := 72) rfl ?_); refine goesL_ (some 12) rfl rfl Try.func72 (by kernel_rfl) rfl #[.pointer (some ⟨g, 0, none⟩), .slice Ao16 y197.length co16] rfl (by (try simp only [List.map_toArray, List.map_cons, List.map_nil]); first | done | rfl | (simp only [List.length_drop, List.length_take]; rfl)) ?_; (with_reducible refine (spec_reader_one.calls k g s0_0 t195 _ _ y197 t200 t201 w0 _ ?side1 ?side2 ?side3 ?side4 ?side5 A4.out).mono ?_); (case side1 => repeat (first | (with_reducible first | exact HI0.out | apply IsS98.alloc | apply IsS98.drewN | apply IsS98.drew | apply IsS98.set_1 | refine IsS98.far ?_ NB0_187.out _ | refine IsS98.far ?_ NB0_196.out _) | exact HI0.out)); (case side2 => repeat (first | (with_reducible first | exact HB.out | apply below_alloc | apply pw_below_drewN | apply below_drew1 | refine below_set ?_ (IsS98.ge HI0.out) | refine below_set ?_ GE187.out | refine below_set ?_ GE196.out) | exact HB.out)); (case side3 => repeat (first | exact (Kd.R_reads' HO199.out).2.2 | (with_reducible refine Kd.C_alloc ?_ _) | (with_reducible refine Kd.C_drewN ?_ _) | (with_reducible refine Kd.C_drew ?_))); (case side4 => exact (Kd.R_reads' HO199.out).2.1); (case side5 => exact far_slice (IsS98.own_ne HI0.out HO199.out (by decide))); rintro e w17 ⟨rfl, hi, hb, hk⟩; refine ⟨_, rfl, ?_⟩; have n0_ := Aside0.mk (KeepBut.blk hk (g' := gb187) (o := .cells #[.slice none 0 0, .slice none 0 0, .slice none 0 0] 62 (0, 0)) (by (with_reducible repeat (first | refine blk_drewN ?_ _ | refine blk_drew ?_ | refine blk_alloc ?_ _)); exact BK187.out) NB187_0.out (by simp)); have n1_ := Aside0.mk (Kd.R_mono (Kd.R_keep (IsS98.apart (show IsS98 w0 _ g s0_0 t195 from by repeat (first | (with_reducible first | exact HI0.out | apply IsS98.alloc | apply IsS98.drewN | apply IsS98.drew | apply IsS98.set_1 | refine IsS98.far ?_ NB0_187.out _ | refine IsS98.far ?_ NB0_196.out _) | exact HI0.out)) (by (with_reducible repeat (first | apply Kd.R_alloc | apply Kd.R_drewN | apply Kd.R_drew)); exact HO190.out) (by decide)) hk (fun _ h => h.2)) (fun _ h => h.1)); have n2_ := Aside0.mk (Kd.R_mono (Kd.R_keep (IsS98.apart (show IsS98 w0 _ g s0_0 t195 from by repeat (first | (with_reducible first | exact HI0.out | apply IsS98.alloc | apply IsS98.drewN | apply IsS98.drew | apply IsS98.set_1 | refine IsS98.far ?_ NB0_187.out _ | refine IsS98.far ?_ NB0_196.out _) | exact HI0.out)) (by (with_reducible repeat (first | apply Kd.R_alloc | apply Kd.R_drewN | apply Kd.R_drew)); exact HO194.out) (by decide)) hk (fun _ h => h.2)) (fun _ h => h.1)); have n3_ := Aside0.mk (KeepBut.blk hk (g' := gb196) (o := .cells #[.slice Ao9 t188.length co9, .slice Ao8 t192.length co8, .slice none 0 0] 62 (0, 0)) (by (with_reducible repeat (first | refine blk_drewN ?_ _ | refine blk_drew ?_ | refine blk_alloc ?_ _)); exact BK196.out) NB196_0.out (by simp)); have n4_ := Aside0.mk (Kd.R_mono (Kd.R_keep (IsS98.apart (show IsS98 w0 _ g s0_0 t195 from by repeat (first | (with_reducible first | exact HI0.out | apply IsS98.alloc | apply IsS98.drewN | apply IsS98.drew | apply IsS98.set_1 | refine IsS98.far ?_ NB0_187.out _ | refine IsS98.far ?_ NB0_196.out _) | exact HI0.out)) (by (with_reducible repeat (first | apply Kd.R_alloc | apply Kd.R_drewN | apply Kd.R_drew)); exact HO199.out) (by decide)) hk (fun _ h => h.2)) (fun _ h => h.1)); have n5_ := Aside0.mk (KeepBut.trans (by repeat (first | (with_reducible first | exact HK.out | apply KeepBut.set_ | apply keep_drewN | apply keep_drew | apply keep_alloc | refine keep_far ?_ GW187.out _ | refine keep_far ?_ GW196.out _) | exact HK.out)) hk (.inl rfl)); have n6_ := Aside0.mk (hb); have n7_ := Aside0.mk (hi); clear BK187; clear HO190; clear HO194; clear BK196; clear HO199; clear HK; clear HB; clear HI0; have BK187 := n0_; have HO190 := n1_; have HO194 := n2_; have BK196 := n3_; have HO199 := n4_; have HK := n5_; have HB := n6_; have HI0 := n7_; clear n0_ n1_ n2_ n3_ n4_ n5_ n6_ n7_; (try clear hb); (try clear hb2); (try clear hk); (try clear hi)))
  go_loopg [4] k (fun kq v4 w' => ∃ (x4_1 : Int) (x1001_1 : Int) (x197002_1 : List (S91)) (u197002 : Value), v4 = .int .i64 x4_1 ∧ Aside0 (spec_someGrid.l0 kq x4_1 s0_0 x1001_1 t188 t192 x197002_1 = some (r1, r2, r3, r4)) ∧ Aside0 (kq ≤ k) ∧ Aside0 (Kd.R k104 104 w' w.heap.size (fun k_ => some k_ ≠ ((.slice Ao8 t192.length co8) : Value).ownBlock) (.slice Ao9 t188.length co9) t188) ∧ Aside0 (Kd.R k104 104 w' w.heap.size (fun k_ => some k_ ≠ ((.slice Ao9 t188.length co9) : Value).ownBlock) (.slice Ao8 t192.length co8) t192) ∧ Aside0 (Kd.R k91 91 w' w.heap.size (fun _ => True) u197002 x197002_1) ∧ Aside0 (w'.heap[gb187]? = some (.cells #[(.slice none 0 0), (.slice none 0 0), (.slice none 0 0)] 62 (0, 0))) ∧ Aside0 (w'.heap[gb196]? = some (.cells #[(.slice Ao9 t188.length co9), (.slice Ao8 t192.length co8), u197002] 62 (0, 0))) ∧ Aside0 (IsS98 w0 w' g s0_0 x1001_1) ∧ Aside0 (KeepBut w w' g none) ∧ Aside0 (Below w0.heap.size w0 w'))
  case atStart => exact ⟨(t200), (t201), (([] : List (S91))), (.slice none 0 0), (by first | rfl | (simp; done) | (simp [*]; done)), H', ⟨Nat.le_refl _⟩, ⟨by (with_reducible repeat (first | apply Kd.R_alloc | apply Kd.R_drewN | apply Kd.R_drew)); exact Kd.R_mono HO190.out (fun _ hk => hk.2)⟩, ⟨by (with_reducible repeat (first | apply Kd.R_alloc | apply Kd.R_drewN | apply Kd.R_drew)); exact Kd.R_mono HO194.out (fun _ hk => hk.2)⟩, ⟨by first | exact Kd.R_nil _ _ _ _ _ | exact Kd.N_nil _ _ _ _ _ | exact Kd.V_nil _ _ _ _ _ | exact Kd.Q_nil _ _ _ _ _ | exact Kd.S_nil _ _ _ _ _⟩, ⟨by (with_reducible repeat (first | refine blk_drewN ?_ _ | refine blk_drew ?_ | refine blk_alloc ?_ _)); exact BK187.out⟩, ⟨by (with_reducible repeat (first | refine blk_drewN ?_ _ | refine blk_drew ?_ | refine blk_alloc ?_ _)); exact BK196.out⟩, ⟨by repeat (first | (with_reducible first | exact HI0.out | apply IsS98.alloc | apply IsS98.drewN | apply IsS98.drew | apply IsS98.set_1 | refine IsS98.far ?_ NB0_187.out _ | refine IsS98.far ?_ NB0_196.out _) | exact HI0.out)⟩, ⟨by repeat (first | (with_reducible first | exact HK.out | apply KeepBut.set_ | apply keep_drewN | apply keep_drew | apply keep_alloc | refine keep_far ?_ GW187.out _ | refine keep_far ?_ GW196.out _) | exact HK.out)⟩, ⟨by repeat (first | (with_reducible first | exact HB.out | apply below_alloc | apply pw_below_drewN | apply below_drew1 | refine below_set ?_ (IsS98.ge HI0.out) | refine below_set ?_ GE187.out | refine below_set ?_ GE196.out) | exact HB.out)⟩⟩
  case round =>
    clear H'
    try clear c1
    try clear p2
    try clear c7
    try clear c8
    try clear c9
    try clear c11
    try clear c12
    try clear hcz13_0
    try clear hcz13_1
    try clear hcz13_2
    try clear hfz13_0
    try clear hfz13_1
    try clear hfz13_2
    obtain ⟨x4_1, x1001_1, x197002_1, u197002, rfl, HA, HK1, HO_197000, HO_197001, HO_197002, BK187, BK196, HI0, HK, HB⟩ := hrel
    cases gk with
    | zero => exact absurd HA.out (by simp [spec_someGrid.l0])
    | succ k1 =>
      have H := HA.out
      clear HA
      simp only [spec_someGrid.l0] at H
      by_cases c18 : x4_1 > 0
      · rw [if_pos c18] at H
        have c18b0 : decide (0 < x4_1) = true := decide_eq_true c18
        clear c18
        replace H := Option.bind_eq_some_iff.mp H
        obtain ⟨⟨t202, t203, t204, t205, t206, t207, t208, t209, t210, t211⟩, A190, H⟩ := H
        replace H : (if x197002_1.length < 1954687338268 then (spec_someGrid.l0 k1 (wrap64 (x4_1 - 1)) s0_0 t211 t188 t192 (x197002_1 ++ [(⟨t202, t203, t204, t205, t206, t207, t208, t209, t210⟩ : S91)])) else (none)) = some (r1, r2, r3, r4) := H
        have A19 := Aside0.mk A190
        clear A190
        by_cases c20 : x197002_1.length < 1954687338268
        · rw [if_pos c20] at H
          have LMc20 := Aside0.mk c20
          clear c20
          obtain ⟨y212, hy212⟩ : ∃ y_ : List (S91), y_ = (x197002_1 ++ [(⟨t202, t203, t204, t205, t206, t207, t208, t209, t210⟩ : S91)]) := ⟨_, rfl⟩
          replace H : (spec_someGrid.l0 k1 (wrap64 (x4_1 - 1)) s0_0 t211 t188 t192 y212) = some (r1, r2, r3, r4) := by first | (rw [hy212]; with_reducible exact H) | (have H2_ := (Option.bind_some _ _).symm.trans H; rw [hy212]; with_reducible exact H2_) | (have H2_ := (Option.bind_some _ _).symm.trans H; with_reducible exact H2_) | with_reducible exact H | (rw [hy212]; exact H) | exact H
          have Ny212 := Aside0.mk hy212
          clear hy212
          have H' := Aside0.mk H
          clear H
          try go_wp2
          have n0_ := Aside0.mk (Kd.R_drew HO_197000.out)
          have n1_ := Aside0.mk (Kd.R_drew HO_197001.out)
          have n2_ := Aside0.mk (Kd.R_drew HO_197002.out)
          have n3_ := Aside0.mk (blk_drew BK187.out)
          have n4_ := Aside0.mk (blk_drew BK196.out)
          have n5_ := Aside0.mk (IsS98.drew HI0.out)
          have n6_ := Aside0.mk (keep_drew HK.out)
          have n7_ := Aside0.mk (below_drew1 HB.out)
          clear HO_197000
          clear HO_197001
          clear HO_197002
          clear BK187
          clear BK196
          clear HI0
          clear HK
          clear HB
          have HO_197000 := n0_
          have HO_197001 := n1_
          have HO_197002 := n2_
          have BK187 := n3_
          have BK196 := n4_
          have HI0 := n5_
          have HK := n6_
          have HB := n7_
          clear n0_ n1_ n2_ n3_ n4_ n5_ n6_ n7_
          refine start_ (n := 14) (S := fun w' => w'.cell? ⟨gb196, 0, none⟩ = some (.slice Ao9 t188.length co9) ∧ w'.cell? ⟨gb196, 1, none⟩ = some (.slice Ao8 t192.length co8) ∧ w'.cell? ⟨gb196, 2, none⟩ = some (u197002)) (ds := [13]) #[false, false, false, false, false, false, false, false, false, false, false, false, false, false] (by kernel_rfl) rfl rfl ⟨(blk_cell BK196.out 0).trans rfl, (blk_cell BK196.out 1).trans rfl, (blk_cell BK196.out 2).trans rfl⟩ (fun hHeld => ?_); refine with_tabW spec_someGrid.tab5 spec_someGrid.bits5 (fun HT_ HW_ => ?_)
          generalize wr.drew = w21 at HO_197000 HO_197001 HO_197002 BK187 BK196 HI0 HK HB hHeld ⊢
          refine pure_ (i := 0) (N := some 17) (v := ?_) (a' := ?_) #[true, false, false, false, false, false, false, false, false, false, false, false, false, false] rfl rfl (any_of HT_.out (by kernel_rfl)) (fun _ _ _ h => h) (Or.inl ⟨by rfl, ?_⟩) ?_ ?_
          rotate_left
          · intro w'
            go_simp
            with_reducible rfl
          rotate_left
          · simp only [Act.put, List.setIfInBounds_toArray, List.set_cons_zero, List.set_cons_succ, i64_w, i32_w]
            rfl
          refine pure_ (i := 2) (N := some 19) (v := ?_) (a' := ?_) #[true, false, true, false, false, false, false, false, false, false, false, false, false, false] rfl rfl (any_of HT_.out (by kernel_rfl)) (fun _ _ _ h => h) (Or.inl ⟨by rfl, ?_⟩) ?_ ?_
          rotate_left
          · intro w'
            go_simp
            with_reducible rfl
          rotate_left
          · simp only [Act.put, List.setIfInBounds_toArray, List.set_cons_zero, List.set_cons_succ, i64_w, i32_w]
            rfl
          refine pure_ (i := 3) (N := some 20) (v := ?_) (a' := ?_) #[true, false, true, true, false, false, false, false, false, false, false, false, false, false] rfl rfl (any_of HT_.out (by kernel_rfl)) (fun _ _ _ h => h) (Or.inl ⟨by rfl, ?_⟩) ?_ ?_
          rotate_left
          · intro w'
            go_simp
            with_reducible rfl
          rotate_left
          · simp only [Act.put, List.setIfInBounds_toArray, List.set_cons_zero, List.set_cons_succ, i64_w, i32_w]
            rfl
          refine pure_ (i := 6) (N := some 23) (v := ?_) (a' := ?_) #[true, false, true, true, false, false, true, false, false, false, false, false, false, false] rfl rfl (any_of HT_.out (by kernel_rfl)) (fun _ _ _ h => h) (Or.inl ⟨by rfl, ?_⟩) ?_ ?_
          rotate_left
          · intro w'
            go_simp
            with_reducible rfl
          rotate_left
          · simp only [Act.put, List.setIfInBounds_toArray, List.set_cons_zero, List.set_cons_succ, i64_w, i32_w]
            rfl
          refine take_ (i := 1) (N := some 18) (v := ?_) (a' := ?_) #[true, true, true, true, false, false, true, false, false, false, false, false, false, false] rfl rfl (take_ofW HT_.out HW_.out (by kernel_rfl)) (fun _ _ _ h => h) (Or.inl ⟨by rfl, ?_⟩) hHeld ?_ ?_
          rotate_left
          · rintro w' ⟨s0, s1, s2⟩
            go_simp
            with_reducible rfl
          rotate_left
          · simp only [Act.put, List.setIfInBounds_toArray, List.set_cons_zero, List.set_cons_succ, i64_w, i32_w]
            rfl
          refine take_ (i := 4) (N := some 21) (v := ?_) (a' := ?_) #[true, true, true, true, true, false, true, false, false, false, false, false, false, false] rfl rfl (take_ofW HT_.out HW_.out (by kernel_rfl)) (fun _ _ _ h => h) (Or.inl ⟨by rfl, ?_⟩) hHeld ?_ ?_
          rotate_left
          · rintro w' ⟨s0, s1, s2⟩
            go_simp
            with_reducible rfl
          rotate_left
          · simp only [Act.put, List.setIfInBounds_toArray, List.set_cons_zero, List.set_cons_succ, i64_w, i32_w]
            rfl
          refine pure_ (i := 5) (N := some 22) (v := ?_) (a' := ?_) #[true, true, true, true, true, true, true, false, false, false, false, false, false, false] rfl rfl (any_of HT_.out (by kernel_rfl)) (fun _ _ _ h => h) (Or.inl ⟨by rfl, ?_⟩) ?_ ?_
          rotate_left
          · intro w'
            go_simp
            with_reducible rfl
          rotate_left
          · simp only [Act.put, List.setIfInBounds_toArray, List.set_cons_zero, List.set_cons_succ, i64_w, i32_w]
            rfl
          refine take_ (i := 7) (N := some 24) (v := ?_) (a' := ?_) #[true, true, true, true, true, true, true, true, false, false, false, false, false, false] rfl rfl (take_ofW HT_.out HW_.out (by kernel_rfl)) (fun _ _ _ h => h) (Or.inl ⟨by rfl, ?_⟩) hHeld ?_ ?_
          rotate_left
          · rintro w' ⟨s0, s1, s2⟩
            go_simp
            with_reducible rfl
          rotate_left
          · simp only [Act.put, List.setIfInBounds_toArray, List.set_cons_zero, List.set_cons_succ, i64_w, i32_w]
            rfl
          refine pure_ (i := 8) (N := some 25) (v := ?_) (a' := ?_) #[true, true, true, true, true, true, true, true, true, false, false, false, false, false] rfl rfl (any_of HT_.out (by kernel_rfl)) (fun _ _ _ h => h) (Or.inl ⟨by rfl, ?_⟩) ?_ ?_
          rotate_left
          · intro w'
            go_simp
            with_reducible rfl
          rotate_left
          · simp only [Act.put, List.setIfInBounds_toArray, List.set_cons_zero, List.set_cons_succ, i64_w, i32_w]
            rfl
          refine one_ (i := 9) (N := some 26) #[true, true, true, true, true, true, true, true, true, true, false, false, false, false] rfl rfl (one_of HT_.out (by kernel_rfl)) (by decide) (fun K hK => ?_)
          refine goes_ Try.func100 (by kernel_rfl) rfl #[.pointer (some ⟨g, 0, none⟩), .int .i64 (t188.length : Int), .int .i64 (t192.length : Int)] (by rfl) rfl rfl (by (try simp only [List.map_toArray, List.map_cons, List.map_nil]); first | done | rfl | (simp only [List.length_drop, List.length_take]; rfl)) ?_
          with_reducible refine (spec_goodCell.calls k1 g s0_0 x1001_1 (t188.length : Int) (t192.length : Int) t202 t203 t204 t205 t206 t207 t208 t209 t210 t211 w0 _ ?side1 ?side2 A19.out).mono ?_
          (case side1 => repeat (first | (with_reducible first | exact HI0.out | apply IsS98.alloc | apply IsS98.drewN | apply IsS98.drew | apply IsS98.set_1 | refine IsS98.far ?_ NB0_187.out _ | refine IsS98.far ?_ NB0_196.out _) | exact HI0.out))
          (case side2 => repeat (first | (with_reducible first | exact HB.out | apply below_alloc | apply pw_below_drewN | apply below_drew1 | refine below_set ?_ (IsS98.ge HI0.out) | refine below_set ?_ GE187.out | refine below_set ?_ GE196.out) | exact HB.out))
          rintro e w22 ⟨rfl, hi, hb, hk⟩
          refine ⟨_, rfl, ?_⟩
          have n0_ := Aside0.mk (Kd.R_mono (Kd.R_keep (IsS98.apart (show IsS98 w0 _ g s0_0 x1001_1 from by repeat (first | (with_reducible first | exact HI0.out | apply IsS98.alloc | apply IsS98.drewN | apply IsS98.drew | apply IsS98.set_1 | refine IsS98.far ?_ NB0_187.out _ | refine IsS98.far ?_ NB0_196.out _) | exact HI0.out)) (by (with_reducible repeat (first | apply Kd.R_alloc | apply Kd.R_drewN | apply Kd.R_drew)); exact HO_197000.out) (by decide)) hk (fun _ h => h.2)) (fun _ h => h.1))
          have n1_ := Aside0.mk (Kd.R_mono (Kd.R_keep (IsS98.apart (show IsS98 w0 _ g s0_0 x1001_1 from by repeat (first | (with_reducible first | exact HI0.out | apply IsS98.alloc | apply IsS98.drewN | apply IsS98.drew | apply IsS98.set_1 | refine IsS98.far ?_ NB0_187.out _ | refine IsS98.far ?_ NB0_196.out _) | exact HI0.out)) (by (with_reducible repeat (first | apply Kd.R_alloc | apply Kd.R_drewN | apply Kd.R_drew)); exact HO_197001.out) (by decide)) hk (fun _ h => h.2)) (fun _ h => h.1))
          have n2_ := Aside0.mk (Kd.R_mono (Kd.R_keep (IsS98.apart (show IsS98 w0 _ g s0_0 x1001_1 from by repeat (first | (with_reducible first | exact HI0.out | apply IsS98.alloc | apply IsS98.drewN | apply IsS98.drew | apply IsS98.set_1 | refine IsS98.far ?_ NB0_187.out _ | refine IsS98.far ?_ NB0_196.out _) | exact HI0.out)) (by (with_reducible repeat (first | apply Kd.R_alloc | apply Kd.R_drewN | apply Kd.R_drew)); exact HO_197002.out) (by decide)) hk (fun _ h => h.2)) (fun _ h => h.1))
          have n3_ := Aside0.mk (KeepBut.blk hk (g' := gb187) (o := .cells #[.slice none 0 0, .slice none 0 0, .slice none 0 0] 62 (0, 0)) (by (with_reducible repeat (first | refine blk_drewN ?_ _ | refine blk_drew ?_ | refine blk_alloc ?_ _)); exact BK187.out) NB187_0.out (by simp))
          have n4_ := Aside0.mk (KeepBut.blk hk (g' := gb196) (o := .cells #[.slice Ao9 t188.length co9, .slice Ao8 t192.length co8, u197002] 62 (0, 0)) (by (with_reducible repeat (first | refine blk_drewN ?_ _ | refine blk_drew ?_ | refine blk_alloc ?_ _)); exact BK196.out) NB196_0.out (by simp))
          have n5_ := Aside0.mk (KeepBut.trans (by repeat (first | (with_reducible first | exact HK.out | apply KeepBut.set_ | apply keep_drewN | apply keep_drew | apply keep_alloc | refine keep_far ?_ GW187.out _ | refine keep_far ?_ GW196.out _) | exact HK.out)) hk (.inl rfl))
          have n6_ := Aside0.mk (hb)
          have n7_ := Aside0.mk (hi)
          clear HO_197000
          clear HO_197001
          clear HO_197002
          clear BK187
          clear BK196
          clear HK
          clear HB
          clear HI0
          have HO_197000 := n0_
          have HO_197001 := n1_
          have HO_197002 := n2_
          have BK187 := n3_
          have BK196 := n4_
          have HK := n5_
          have HB := n6_
          have HI0 := n7_
          clear n0_ n1_ n2_ n3_ n4_ n5_ n6_ n7_
          (try clear hb)
          (try clear hb2)
          (try clear hk)
          (try clear hi)
          refine hK.out _ _ ⟨(blk_cell BK196.out 0).trans rfl, (blk_cell BK196.out 1).trans rfl, (blk_cell BK196.out 2).trans rfl⟩ (fun hHeld => ?_)
          clear hK K
          refine norm_ (a' := ?_) ?_ ?_
          rotate_left
          · show Act.put _ (some 26) _ = _
            simp only [Act.put, List.setIfInBounds_toArray, List.set_cons_zero, List.set_cons_succ, i64_w, i32_w]
            rfl
          refine one_ (i := 10) (N := some 27) #[true, true, true, true, true, true, true, true, true, true, true, false, false, false] rfl rfl (one_of HT_.out (by kernel_rfl)) (by decide) (fun K hK => ?_)
          refine value_ (w1 := ?_) (v := ?_) (by rfl) rfl ?_ ?_
          rotate_left 2
          · go_simp
            constructor
            · rfl
            · rfl
          refine hK.out _ _ ⟨(blk_cell (blk_alloc BK196.out _) 0).trans rfl, (blk_cell (blk_alloc BK196.out _) 1).trans rfl, (blk_cell (blk_alloc BK196.out _) 2).trans rfl⟩ (fun hHeld => ?_)
          clear hK K
          refine norm_ (a' := ?_) ?_ ?_
          rotate_left
          · show Act.put _ (some 27) _ = _
            simp only [Act.put, List.setIfInBounds_toArray, List.set_cons_zero, List.set_cons_succ, i64_w, i32_w]
            rfl
          refine one_ (i := 11) (N := some 28) #[true, true, true, true, true, true, true, true, true, true, true, true, false, false] rfl rfl (one_of HT_.out (by kernel_rfl)) (by decide) (fun K hK => ?_)
          refine Kd.R_append_step k91 w.heap.size (by rfl) (.tmp 18) (.tmp 27) 60 91 (.agg #[(.int .i64 0), (.int .i64 0), (.int .i64 0), (.int .i64 0), (.int .i64 0), (.int .i64 0), (.int .i64 0), (.int .i64 0), (.int .i64 0)]) 72 rfl Try.underlying60 info91 rfl (by decide) (by omega) u197002 x197002_1 (⟨t202, t203, t204, t205, t206, t207, t208, t209, t210⟩ : S91) [.int .i64 t202, .int .i64 t203, .int .i64 t204, .int .i64 t205, .int .i64 t206, .int .i64 t207, .int .i64 t208, .int .i64 t209, .int .i64 t210] (fun _ => True) (fun _ => False) rfl rfl ?aP (fun _ hk => hk.elim) ?aF ?aO (Below.refl _ _) ?aS ?aL ?_
          (case aP => exact k91_mkM _ _ _ (⟨t202, t203, t204, t205, t206, t207, t208, t209, t210⟩ : S91))
          (case aF => exact (fun _ _ => trivial))
          (case aO => exact (by (with_reducible repeat (first | apply Kd.R_alloc | apply Kd.R_drewN | apply Kd.R_drew)); exact HO_197002.out))
          (case aS => exact (keep_size (w := w) (g := g) (row := none) (by repeat (first | (with_reducible first | exact HK.out | apply KeepBut.set_ | apply keep_drewN | apply keep_drew | apply keep_alloc | refine keep_far ?_ GW187.out _ | refine keep_far ?_ GW196.out _) | exact HK.out))))
          (case aL => have := LMc20.out; omega)
          intro v213 w23 ho hb hg hat
          rw [← Ny212.out] at ho
          have n0_ := Aside0.mk (Kd.R_over' (by (with_reducible repeat (first | apply Kd.R_alloc | apply Kd.R_drewN | apply Kd.R_drew)); exact HO_197000.out) (Kd.R_typed (by (with_reducible repeat (first | apply Kd.R_alloc | apply Kd.R_drewN | apply Kd.R_drew)); exact HO_197002.out)) (by decide) hg)
          have n1_ := Aside0.mk (Kd.R_over' (by (with_reducible repeat (first | apply Kd.R_alloc | apply Kd.R_drewN | apply Kd.R_drew)); exact HO_197001.out) (Kd.R_typed (by (with_reducible repeat (first | apply Kd.R_alloc | apply Kd.R_drewN | apply Kd.R_drew)); exact HO_197002.out)) (by decide) hg)
          have n2_ := Aside0.mk (blk_grown (g := gb187) (o := .cells #[.slice none 0 0, .slice none 0 0, .slice none 0 0] 62 (0, 0)) (by (with_reducible repeat (first | refine blk_drewN ?_ _ | refine blk_drew ?_ | refine blk_alloc ?_ _)); exact BK187.out) hg (Kd.R_ne HO_197002.out BK187.out (by decide)))
          have n3_ := Aside0.mk (blk_grown (g := gb196) (o := .cells #[.slice Ao9 t188.length co9, .slice Ao8 t192.length co8, u197002] 62 (0, 0)) (by (with_reducible repeat (first | refine blk_drewN ?_ _ | refine blk_drew ?_ | refine blk_alloc ?_ _)); exact BK196.out) hg (Kd.R_ne HO_197002.out BK196.out (by decide)))
          have n4_ := Aside0.mk (IsS98.grown (by repeat (first | (with_reducible first | exact HI0.out | apply IsS98.alloc | apply IsS98.drewN | apply IsS98.drew | apply IsS98.set_1 | refine IsS98.far ?_ NB0_187.out _ | refine IsS98.far ?_ NB0_196.out _) | exact HI0.out)) hg (IsS98.own_ne HI0.out HO_197002.out (by decide)))
          have n5_ := Aside0.mk (below_weaken (by repeat (first | (with_reducible first | exact HB.out | apply below_alloc | apply pw_below_drewN | apply below_drew1 | refine below_set ?_ (IsS98.ge HI0.out) | refine below_set ?_ GE187.out | refine below_set ?_ GE196.out) | exact HB.out)) HL.out hb)
          have n6_ := Aside0.mk (KeepBut.trans (by repeat (first | (with_reducible first | exact HK.out | apply KeepBut.set_ | apply keep_drewN | apply keep_drew | apply keep_alloc | refine keep_far ?_ GW187.out _ | refine keep_far ?_ GW196.out _) | exact HK.out)) (KeepBut.of_grown hg g) (Kd.R_base2 HO_197002.out))
          have n7_ := Aside0.mk (ho)
          clear HO_197000
          clear HO_197001
          clear BK187
          clear BK196
          clear HI0
          clear HB
          clear HK
          clear HO_197002
          have HO_197000 := n0_
          have HO_197001 := n1_
          have BK187 := n2_
          have BK196 := n3_
          have HI0 := n4_
          have HB := n5_
          have HK := n6_
          have HO214 := n7_
          clear n0_ n1_ n2_ n3_ n4_ n5_ n6_ n7_
          clear ho hb hg hat
          obtain ⟨Ao24, co24, eo24⟩ := Kd.R_slice HO214.out
          (first | subst eo24 | (injection eo24 with f1_ f2_ f3_; have f4_ := f1_.symm; have f5_ := f3_.symm; clear f1_ f2_ f3_; subst f4_; subst f5_))
          refine hK.out _ _ ⟨(blk_cell BK196.out 0).trans rfl, (blk_cell BK196.out 1).trans rfl, (blk_cell BK196.out 2).trans rfl⟩ (fun hHeld => ?_)
          clear hK K
          refine norm_ (a' := ?_) ?_ ?_
          rotate_left
          · show Act.put _ (some 28) _ = _
            simp only [Act.put, List.setIfInBounds_toArray, List.set_cons_zero, List.set_cons_succ, i64_w, i32_w]
            rfl
          refine pure_ (i := 12) (N := some 29) (v := ?_) (a' := ?_) #[true, true, true, true, true, true, true, true, true, true, true, true, true, false] rfl rfl (any_of HT_.out (by kernel_rfl)) (fun _ _ _ h => h) (Or.inl ⟨by rfl, ?_⟩) ?_ ?_
          rotate_left
          · intro w'
            go_simp
            with_reducible rfl
          rotate_left
          · simp only [Act.put, List.setIfInBounds_toArray, List.set_cons_zero, List.set_cons_succ, i64_w, i32_w]
            rfl
          refine last_ (i := 13) (N := none) #[true, true, true, true, true, true, true, true, true, true, true, true, true, true] rfl rfl (one_of HT_.out (by kernel_rfl)) (by decide) (fun K hK => ?_)
          have hs25 : w23.cell? ⟨gb196, 2, none⟩ = some (u197002) := (blk_cell BK196.out 2).trans rfl
          have hfs25 := blk_frozen BK196.out 2
          have hns25_0 := NB187_196.out
          have hms25_0 := NB196_187.out
          refine skip_ (w1 := ?_) (by rfl) rfl ?_ ?_
          rotate_left
          · go_simp
            rfl
          refine hK.out _ _ ?_
          clear hK K
          refine done_ (done_of HT_.out (by kernel_rfl)) ?_
          try go_wp2
          go_roundg k1
          case measure => have := HK1.out; omega
          case rel => exact ⟨(wrap64 (x4_1 - 1)), (t211), (y212), (.slice Ao24 y212.length co24), (by first | rfl | (simp; done) | (simp [*]; done)), H', ⟨by have := HK1.out; omega⟩, ⟨by (with_reducible repeat (first | apply Kd.R_alloc | apply Kd.R_drewN | apply Kd.R_drew)); exact Kd.R_mono (Kd.R_far (p := ⟨gb196, 2, none⟩) (Kd.R_types HO_197000.out BK196.out (by decide)) (fun _ hk => hk.2) (.slice Ao24 y212.length co24)) (fun _ hk => hk.1)⟩, ⟨by (with_reducible repeat (first | apply Kd.R_alloc | apply Kd.R_drewN | apply Kd.R_drew)); exact Kd.R_mono (Kd.R_far (p := ⟨gb196, 2, none⟩) (Kd.R_types HO_197001.out BK196.out (by decide)) (fun _ hk => hk.2) (.slice Ao24 y212.length co24)) (fun _ hk => hk.1)⟩, ⟨by (with_reducible repeat (first | apply Kd.R_alloc | apply Kd.R_drewN | apply Kd.R_drew)); exact Kd.R_mono (Kd.R_far (p := ⟨gb196, 2, none⟩) (Kd.R_types HO214.out BK196.out (by decide)) (fun _ hk => hk.2) (.slice Ao24 y212.length co24)) (fun _ hk => trivial)⟩, ⟨by (with_reducible repeat (first | refine blk_drewN ?_ _ | refine blk_drew ?_ | refine blk_alloc ?_ _)); refine blk_far ?_ NB187_196.out _; (with_reducible repeat (first | refine blk_drewN ?_ _ | refine blk_drew ?_ | refine blk_alloc ?_ _)); exact BK187.out⟩, ⟨by (with_reducible repeat (first | refine blk_drewN ?_ _ | refine blk_drew ?_ | refine blk_alloc ?_ _)); refine blk_put (cs := #[.slice Ao9 t188.length co9, .slice Ao8 t192.length co8, u197002]) ?_ 2 _ rfl; (with_reducible repeat (first | refine blk_drewN ?_ _ | refine blk_drew ?_ | refine blk_alloc ?_ _)); exact BK196.out⟩, ⟨by repeat (first | (with_reducible first | exact HI0.out | apply IsS98.alloc | apply IsS98.drewN | apply IsS98.drew | apply IsS98.set_1 | refine IsS98.far ?_ NB0_187.out _ | refine IsS98.far ?_ NB0_196.out _) | exact HI0.out)⟩, ⟨by repeat (first | (with_reducible first | exact HK.out | apply KeepBut.set_ | apply keep_drewN | apply keep_drew | apply keep_alloc | refine keep_far ?_ GW187.out _ | refine keep_far ?_ GW196.out _) | exact HK.out)⟩, ⟨by repeat (first | (with_reducible first | exact HB.out | apply below_alloc | apply pw_below_drewN | apply below_drew1 | refine below_set ?_ (IsS98.ge HI0.out) | refine below_set ?_ GE187.out | refine below_set ?_ GE196.out) | exact HB.out)⟩⟩
        · rw [if_neg c20] at H
          exact absurd H (by simp)
      · rw [if_neg c18] at H
        have c18b0 : decide (0 < x4_1) = false := decide_eq_false c18
        clear c18
        replace H := Option.bind_eq_some_iff.mp H
        obtain ⟨⟨t215, t216⟩, A260, H⟩ := H
        replace H : (if t215 = 0 then ((spec_someLines.f k1 s0_0 t216).bind fun bt217 => (some (bt217.1, t192, x197002_1, bt217.2))) else (if t215 = 1 then (if (x197002_1.length : Int) > 0 then ((spec_reader_one.f k1 s0_0 t216 (([(-1), 16] : List Int))).bind fun bt224 => (if 0 < (x197002_1.length : Int) then (some (t188, t192, (x197002_1.set (0 : Int).toNat (⟨(rd_T91 x197002_1 0).f0, (rd_T91 x197002_1 0).f1, (rd_T91 x197002_1 0).f2, (rd_T91 x197002_1 0).f3, (rd_T91 x197002_1 0).f4, (rd_T91 x197002_1 0).f5, bt224.1, (rd_T91 x197002_1 0).f7, (rd_T91 x197002_1 0).f8⟩ : S91)), bt224.2)) else (none))) else (some (t188, t192, x197002_1, t216))) else (if t215 = 2 then (if (x197002_1.length : Int) > 0 then ((spec_reader_one.f k1 s0_0 t216 (([0, 6] : List Int))).bind fun bt230 => (if 0 < (x197002_1.length : Int) then (some (t188, t192, (x197002_1.set (0 : Int).toNat (⟨(rd_T91 x197002_1 0).f0, (rd_T91 x197002_1 0).f1, (rd_T91 x197002_1 0).f2, bt230.1, (rd_T91 x197002_1 0).f4, (rd_T91 x197002_1 0).f5, (rd_T91 x197002_1 0).f6, (rd_T91 x197002_1 0).f7, (rd_T91 x197002_1 0).f8⟩ : S91)), bt230.2)) else (none))) else (some (t188, t192, x197002_1, t216))) else (some (t188, t192, x197002_1, t216))))) = some (r1, r2, r3, r4) := H
        have A26 := Aside0.mk A260
        clear A260
        by_cases c27 : t215 = 0
        · rw [if_pos c27] at H
          have c27b0 : (t215 == 0) = true := beq_iff_eq.mpr c27
          have c27b1 : (t215 != 0) = false := bne_eq_false_iff_eq.mpr c27
          clear c27
          replace H := Option.bind_eq_some_iff.mp H
          obtain ⟨⟨t217, t220⟩, A280, H⟩ := H
          replace H : (some (t217, t192, x197002_1, t220)) = some (r1, r2, r3, r4) := H
          have A28 := Aside0.mk A280
          clear A280
          simp only [Option.some.injEq, Prod.mk.injEq] at H
          obtain ⟨rfl, rfl, rfl, rfl⟩ := H
          go_wp2_with (first | ((with_reducible refine gate_callee (f := 73) rfl ?_); refine goesL_ (some 31) rfl rfl Try.func73 (by kernel_rfl) rfl #[.pointer (some ⟨g, 0, none⟩), .int .i64 24] rfl (by (try simp only [List.map_toArray, List.map_cons, List.map_nil]); first | done | rfl | (simp only [List.length_drop, List.length_take]; rfl)) ?_; (with_reducible refine (spec_reader_pick.calls k1 g s0_0 x1001_1 24 t215 t216 w0 _ ?side1 ?side2 A26.out).mono ?_); (case side1 => repeat (first | (with_reducible first | exact HI0.out | apply IsS98.alloc | apply IsS98.drewN | apply IsS98.drew | apply IsS98.set_1 | refine IsS98.far ?_ NB0_187.out _ | refine IsS98.far ?_ NB0_196.out _) | exact HI0.out)); (case side2 => repeat (first | (with_reducible first | exact HB.out | apply below_alloc | apply pw_below_drewN | apply below_drew1 | refine below_set ?_ (IsS98.ge HI0.out) | refine below_set ?_ GE187.out | refine below_set ?_ GE196.out) | exact HB.out)); rintro e w29 ⟨rfl, hi, hb, hk⟩; refine ⟨_, rfl, ?_⟩; have n0_ := Aside0.mk (Kd.R_mono (Kd.R_keep (IsS98.apart (show IsS98 w0 _ g s0_0 x1001_1 from by repeat (first | (with_reducible first | exact HI0.out | apply IsS98.alloc | apply IsS98.drewN | apply IsS98.drew | apply IsS98.set_1 | refine IsS98.far ?_ NB0_187.out _ | refine IsS98.far ?_ NB0_196.out _) | exact HI0.out)) (by (with_reducible repeat (first | apply Kd.R_alloc | apply Kd.R_drewN | apply Kd.R_drew)); exact HO_197000.out) (by decide)) hk (fun _ h => h.2)) (fun _ h => h.1)); have n1_ := Aside0.mk (Kd.R_mono (Kd.R_keep (IsS98.apart (show IsS98 w0 _ g s0_0 x1001_1 from by repeat (first | (with_reducible first | exact HI0.out | apply IsS98.alloc | apply IsS98.drewN | apply IsS98.drew | apply IsS98.set_1 | refine IsS98.far ?_ NB0_187.out _ | refine IsS98.far ?_ NB0_196.out _) | exact HI0.out)) (by (with_reducible repeat (first | apply Kd.R_alloc | apply Kd.R_drewN | apply Kd.R_drew)); exact HO_197001.out) (by decide)) hk (fun _ h => h.2)) (fun _ h => h.1)); have n2_ := Aside0.mk (Kd.R_mono (Kd.R_keep (IsS98.apart (show IsS98 w0 _ g s0_0 x1001_1 from by repeat (first | (with_reducible first | exact HI0.out | apply IsS98.alloc | apply IsS98.drewN | apply IsS98.drew | apply IsS98.set_1 | refine IsS98.far ?_ NB0_187.out _ | refine IsS98.far ?_ NB0_196.out _) | exact HI0.out)) (by (with_reducible repeat (first | apply Kd.R_alloc | apply Kd.R_drewN | apply Kd.R_drew)); exact HO_197002.out) (by decide)) hk (fun _ h => h.2)) (fun _ h => h.1)); have n3_ := Aside0.mk (KeepBut.blk hk (g' := gb187) (o := .cells #[.slice none 0 0, .slice none 0 0, .slice none 0 0] 62 (0, 0)) (by (with_reducible repeat (first | refine blk_drewN ?_ _ | refine blk_drew ?_ | refine blk_alloc ?_ _)); exact BK187.out) NB187_0.out (by simp)); have n4_ := Aside0.mk (KeepBut.blk hk (g' := gb196) (o := .cells #[.slice Ao9 t188.length co9, .slice Ao8 t192.length co8, u197002] 62 (0, 0)) (by (with_reducible repeat (first | refine blk_drewN ?_ _ | refine blk_drew ?_ | refine blk_alloc ?_ _)); exact BK196.out) NB196_0.out (by simp)); have n5_ := Aside0.mk (KeepBut.trans (by repeat (first | (with_reducible first | exact HK.out | apply KeepBut.set_ | apply keep_drewN | apply keep_drew | apply keep_alloc | refine keep_far ?_ GW187.out _ | refine keep_far ?_ GW196.out _) | exact HK.out)) hk (.inl rfl)); have n6_ := Aside0.mk (hb); have n7_ := Aside0.mk (hi); clear HO_197000; clear HO_197001; clear HO_197002; clear BK187; clear BK196; clear HK; clear HB; clear HI0; have HO_197000 := n0_; have HO_197001 := n1_; have HO_197002 := n2_; have BK187 := n3_; have BK196 := n4_; have HK := n5_; have HB := n6_; have HI0 := n7_; clear n0_ n1_ n2_ n3_ n4_ n5_ n6_ n7_; (try clear hb); (try clear hb2); (try clear hk); (try clear hi)) | ((with_reducible refine gate_callee (f := 101) rfl ?_); refine goesL_ (some 35) rfl rfl Try.func101 (by kernel_rfl) rfl #[.pointer (some ⟨g, 0, none⟩)] rfl (by (try simp only [List.map_toArray, List.map_cons, List.map_nil]); first | done | rfl | (simp only [List.length_drop, List.length_take]; rfl)) ?_; (with_reducible refine (spec_someLines.calls k1 g s0_0 t216 t217 t220 w0 _ ?side1 ?side2 A28.out).mono ?_); (case side1 => repeat (first | (with_reducible first | exact HI0.out | apply IsS98.alloc | apply IsS98.drewN | apply IsS98.drew | apply IsS98.set_1 | refine IsS98.far ?_ NB0_187.out _ | refine IsS98.far ?_ NB0_196.out _) | exact HI0.out)); (case side2 => repeat (first | (with_reducible first | exact HB.out | apply below_alloc | apply pw_below_drewN | apply below_drew1 | refine below_set ?_ (IsS98.ge HI0.out) | refine below_set ?_ GE187.out | refine below_set ?_ GE196.out) | exact HB.out)); rintro e w30 ⟨v218, rfl, ho0, hi, hb, hk⟩; refine ⟨_, rfl, ?_⟩; have n0_ := Aside0.mk (Kd.R_mono (Kd.R_told (Kd.R_oldK (IsS98.apart (show IsS98 w0 _ g s0_0 t216 from by repeat (first | (with_reducible first | exact HI0.out | apply IsS98.alloc | apply IsS98.drewN | apply IsS98.drew | apply IsS98.set_1 | refine IsS98.far ?_ NB0_187.out _ | refine IsS98.far ?_ NB0_196.out _) | exact HI0.out)) (by (with_reducible repeat (first | apply Kd.R_alloc | apply Kd.R_drewN | apply Kd.R_drew)); exact HO_197000.out) (by decide)) hk) (Kd.R_base ho0)) (fun _ h_ => h_.1)); have n1_ := Aside0.mk (Kd.R_mono (Kd.R_told (Kd.R_oldK (IsS98.apart (show IsS98 w0 _ g s0_0 t216 from by repeat (first | (with_reducible first | exact HI0.out | apply IsS98.alloc | apply IsS98.drewN | apply IsS98.drew | apply IsS98.set_1 | refine IsS98.far ?_ NB0_187.out _ | refine IsS98.far ?_ NB0_196.out _) | exact HI0.out)) (by (with_reducible repeat (first | apply Kd.R_alloc | apply Kd.R_drewN | apply Kd.R_drew)); exact HO_197001.out) (by decide)) hk) (Kd.R_base ho0)) (fun _ h_ => h_.1)); have n2_ := Aside0.mk (Kd.R_mono (Kd.R_keep (IsS98.apart (show IsS98 w0 _ g s0_0 t216 from by repeat (first | (with_reducible first | exact HI0.out | apply IsS98.alloc | apply IsS98.drewN | apply IsS98.drew | apply IsS98.set_1 | refine IsS98.far ?_ NB0_187.out _ | refine IsS98.far ?_ NB0_196.out _) | exact HI0.out)) (by (with_reducible repeat (first | apply Kd.R_alloc | apply Kd.R_drewN | apply Kd.R_drew)); exact HO_197002.out) (by decide)) hk (fun _ h => h.2)) (fun _ h => h.1)); have n3_ := Aside0.mk (KeepBut.blk hk (g' := gb187) (o := .cells #[.slice none 0 0, .slice none 0 0, .slice none 0 0] 62 (0, 0)) (by (with_reducible repeat (first | refine blk_drewN ?_ _ | refine blk_drew ?_ | refine blk_alloc ?_ _)); exact BK187.out) NB187_0.out (by simp)); have n4_ := Aside0.mk (KeepBut.blk hk (g' := gb196) (o := .cells #[.slice Ao9 t188.length co9, .slice Ao8 t192.length co8, u197002] 62 (0, 0)) (by (with_reducible repeat (first | refine blk_drewN ?_ _ | refine blk_drew ?_ | refine blk_alloc ?_ _)); exact BK196.out) NB196_0.out (by simp)); have n5_ := Aside0.mk (Kd.R_lower (Kd.R_new' (Kd.R_new' ho0 (Kd.R_lt (by (with_reducible repeat (first | apply Kd.R_alloc | apply Kd.R_drewN | apply Kd.R_drew)); exact HO_197000.out))) (Kd.R_lt (by (with_reducible repeat (first | apply Kd.R_alloc | apply Kd.R_drewN | apply Kd.R_drew)); exact HO_197001.out))) (keep_size (w := w) (g := g) (row := none) (by repeat (first | (with_reducible first | exact HK.out | apply KeepBut.set_ | apply keep_drewN | apply keep_drew | apply keep_alloc | refine keep_far ?_ GW187.out _ | refine keep_far ?_ GW196.out _) | exact HK.out)))); have n6_ := Aside0.mk (KeepBut.trans (by repeat (first | (with_reducible first | exact HK.out | apply KeepBut.set_ | apply keep_drewN | apply keep_drew | apply keep_alloc | refine keep_far ?_ GW187.out _ | refine keep_far ?_ GW196.out _) | exact HK.out)) hk (.inl rfl)); have n7_ := Aside0.mk (hb); have n8_ := Aside0.mk (hi); clear HO_197000; clear HO_197001; clear HO_197002; clear BK187; clear BK196; clear HK; clear HB; clear HI0; have HO_197000 := n0_; have HO_197001 := n1_; have HO_197002 := n2_; have BK187 := n3_; have BK196 := n4_; have HO219 := n5_; have HK := n6_; have HB := n7_; have HI0 := n8_; clear n0_ n1_ n2_ n3_ n4_ n5_ n6_ n7_ n8_; (try clear hb); (try clear hb2); (try clear hk); (try clear hi); (try clear ho0); obtain ⟨Ao31, co31, eo31⟩ := Kd.R_slice HO219.out; subst eo31; have hnb32 := NB196_187.out; have hnc32 := NB187_196.out; have hnb33 := NB196_0.out; have hnc33 := NB0_196.out; have hcz34_0 : w30.cell? ⟨gb196, 0, none⟩ = some (.slice Ao9 t188.length co9) := (blk_cell BK196.out 0).trans rfl; have hcz34_1 : w30.cell? ⟨gb196, 1, none⟩ = some (.slice Ao8 t192.length co8) := (blk_cell BK196.out 1).trans rfl; have hcz34_2 : w30.cell? ⟨gb196, 2, none⟩ = some (u197002) := (blk_cell BK196.out 2).trans rfl; have hfz34_0 := blk_frozen BK196.out 0; have hfz34_1 := blk_frozen BK196.out 1; have hfz34_2 := blk_frozen BK196.out 2; have hnb35 := NB187_0.out; have hnc35 := NB0_187.out; have hcz36_0 : w30.cell? ⟨gb187, 0, none⟩ = some (.slice none 0 0) := (blk_cell BK187.out 0).trans rfl; have hcz36_1 : w30.cell? ⟨gb187, 1, none⟩ = some (.slice none 0 0) := (blk_cell BK187.out 1).trans rfl; have hcz36_2 : w30.cell? ⟨gb187, 2, none⟩ = some (.slice none 0 0) := (blk_cell BK187.out 2).trans rfl; have hfz36_0 := blk_frozen BK187.out 0; have hfz36_1 := blk_frozen BK187.out 1; have hfz36_2 := blk_frozen BK187.out 2; obtain ⟨Ao37, co37, eo37⟩ := Kd.R_slice HO_197002.out; subst eo37))
          refine bodyPost_ret (results_cell_row rfl _ _ gb187 62 #[.slice Ao31 t217.length co31, .slice Ao8 t192.length co8, .slice Ao37 x197002_1.length co37] (0, 0) _ rfl (by (with_reducible repeat (first | refine blk_drewN ?_ _ | refine blk_drew ?_ | refine blk_alloc ?_ _)); refine blk_put (cs := #[.slice Ao31 t217.length co31, .slice Ao8 t192.length co8, .slice none 0 0]) ?_ 2 _ rfl; (with_reducible repeat (first | refine blk_drewN ?_ _ | refine blk_drew ?_ | refine blk_alloc ?_ _)); refine blk_put (cs := #[.slice Ao31 t217.length co31, .slice none 0 0, .slice none 0 0]) ?_ 1 _ rfl; (with_reducible repeat (first | refine blk_drewN ?_ _ | refine blk_drew ?_ | refine blk_alloc ?_ _)); refine blk_put (cs := #[.slice none 0 0, .slice none 0 0, .slice none 0 0]) ?_ 0 _ rfl; (with_reducible repeat (first | refine blk_drewN ?_ _ | refine blk_drew ?_ | refine blk_alloc ?_ _)); refine blk_far ?_ NB187_196.out _; (with_reducible repeat (first | refine blk_drewN ?_ _ | refine blk_drew ?_ | refine blk_alloc ?_ _)); exact BK187.out) Try.underlying62 rfl (by kernel_rfl)) rfl ?_
          exact ⟨_, _, _, by first | rfl | (simp [errW_none, errW_some] <;> rfl) | (simp [*, errW_none, errW_some] <;> rfl), by (with_reducible repeat (first | apply Kd.R_alloc | apply Kd.R_drewN | apply Kd.R_drew)); exact Kd.R_mono (Kd.R_far (p := ⟨gb187, 2, none⟩) (Kd.R_far (p := ⟨gb187, 1, none⟩) (Kd.R_far (p := ⟨gb187, 0, none⟩) (Kd.R_far (p := ⟨gb196, 0, none⟩) (Kd.R_types (Kd.R_types HO219.out BK196.out (by decide)) BK187.out (by decide)) (fun _ hk => hk.1.2) (.slice Ao31 t217.length co31)) (fun _ hk => hk.2) (.slice Ao31 t217.length co31)) (fun _ hk => hk.2) (.slice Ao8 t192.length co8)) (fun _ hk => hk.2) (.slice Ao37 x197002_1.length co37)) (fun _ hk => hk.1.1.2), by (with_reducible repeat (first | apply Kd.R_alloc | apply Kd.R_drewN | apply Kd.R_drew)); exact Kd.R_mono (Kd.R_far (p := ⟨gb187, 2, none⟩) (Kd.R_far (p := ⟨gb187, 1, none⟩) (Kd.R_far (p := ⟨gb187, 0, none⟩) (Kd.R_far (p := ⟨gb196, 0, none⟩) (Kd.R_types (Kd.R_types HO_197001.out BK196.out (by decide)) BK187.out (by decide)) (fun _ hk => hk.1.2) (.slice Ao31 t217.length co31)) (fun _ hk => hk.2) (.slice Ao31 t217.length co31)) (fun _ hk => hk.2) (.slice Ao8 t192.length co8)) (fun _ hk => hk.2) (.slice Ao37 x197002_1.length co37)) (fun _ hk => hk.1.1.2), by (with_reducible repeat (first | apply Kd.R_alloc | apply Kd.R_drewN | apply Kd.R_drew)); exact Kd.R_mono (Kd.R_far (p := ⟨gb187, 2, none⟩) (Kd.R_far (p := ⟨gb187, 1, none⟩) (Kd.R_far (p := ⟨gb187, 0, none⟩) (Kd.R_far (p := ⟨gb196, 0, none⟩) (Kd.R_types (Kd.R_types HO_197002.out BK196.out (by decide)) BK187.out (by decide)) (fun _ hk => hk.1.2) (.slice Ao31 t217.length co31)) (fun _ hk => hk.2) (.slice Ao31 t217.length co31)) (fun _ hk => hk.2) (.slice Ao8 t192.length co8)) (fun _ hk => hk.2) (.slice Ao37 x197002_1.length co37)) (fun _ hk => trivial), by repeat (first | (with_reducible first | exact HI0.out | apply IsS98.alloc | apply IsS98.drewN | apply IsS98.drew | apply IsS98.set_1 | refine IsS98.far ?_ NB0_187.out _ | refine IsS98.far ?_ NB0_196.out _) | exact HI0.out), by repeat (first | (with_reducible first | exact HB.out | apply below_alloc | apply pw_below_drewN | apply below_drew1 | refine below_set ?_ (IsS98.ge HI0.out) | refine below_set ?_ GE187.out | refine below_set ?_ GE196.out) | exact HB.out), by repeat (first | (with_reducible first | exact HK.out | apply KeepBut.set_ | apply keep_drewN | apply keep_drew | apply keep_alloc | refine keep_far ?_ GW187.out _ | refine keep_far ?_ GW196.out _) | exact HK.out)⟩
        · rw [if_neg c27] at H
          have c27b0 : (t215 == 0) = false := beq_eq_false_iff_ne.mpr c27
          have c27b1 : (t215 != 0) = true := bne_iff_ne.mpr c27
          by_cases c38 : t215 = 1
          · rw [if_pos c38] at H
            have c38b0 : (t215 == 1) = true := beq_iff_eq.mpr c38
            have c38b1 : (t215 != 1) = false := bne_eq_false_iff_eq.mpr c38
            clear c38
            by_cases c39 : (x197002_1.length : Int) > 0
            · rw [if_pos c39] at H
              have c39b0 : decide (0 < (x197002_1.length : Int)) = true := decide_eq_true c39
              have c39b1 : decide (0 < x197002_1.length) = true := decide_eq_true (by omega)
              clear c39
              obtain ⟨y221, hy221⟩ : ∃ y_ : List Int, y_ = (([(-1), 16] : List Int)) := ⟨_, rfl⟩
              replace H : ((spec_reader_one.f k1 s0_0 t216 y221).bind fun bt224 => (if 0 < (x197002_1.length : Int) then (some (t188, t192, (x197002_1.set (0 : Int).toNat (⟨(rd_T91 x197002_1 0).f0, (rd_T91 x197002_1 0).f1, (rd_T91 x197002_1 0).f2, (rd_T91 x197002_1 0).f3, (rd_T91 x197002_1 0).f4, (rd_T91 x197002_1 0).f5, bt224.1, (rd_T91 x197002_1 0).f7, (rd_T91 x197002_1 0).f8⟩ : S91)), bt224.2)) else (none))) = some (r1, r2, r3, r4) := by first | (rw [hy221]; with_reducible exact H) | (have H2_ := (Option.bind_some _ _).symm.trans H; rw [hy221]; with_reducible exact H2_) | (have H2_ := (Option.bind_some _ _).symm.trans H; with_reducible exact H2_) | with_reducible exact H | (rw [hy221]; exact H) | exact H
              have Ny221 := Aside0.mk hy221
              clear hy221
              replace H := Option.bind_eq_some_iff.mp H
              obtain ⟨⟨t224, t225⟩, A400, H⟩ := H
              replace H : (if 0 < (x197002_1.length : Int) then (some (t188, t192, (x197002_1.set (0 : Int).toNat (⟨(rd_T91 x197002_1 0).f0, (rd_T91 x197002_1 0).f1, (rd_T91 x197002_1 0).f2, (rd_T91 x197002_1 0).f3, (rd_T91 x197002_1 0).f4, (rd_T91 x197002_1 0).f5, t224, (rd_T91 x197002_1 0).f7, (rd_T91 x197002_1 0).f8⟩ : S91)), t225)) else (none)) = some (r1, r2, r3, r4) := H
              have A40 := Aside0.mk A400
              clear A400
              by_cases c41 : 0 < (x197002_1.length : Int)
              · rw [if_pos c41] at H
                have c41b0 : decide (0 < (x197002_1.length : Int)) = true := decide_eq_true c41
                have c41b1 : decide (0 < x197002_1.length) = true := decide_eq_true (by omega)
                clear c41
                obtain ⟨y226, hy226⟩ : ∃ y_ : List (S91), y_ = (x197002_1.set (0 : Int).toNat (⟨(rd_T91 x197002_1 0).f0, (rd_T91 x197002_1 0).f1, (rd_T91 x197002_1 0).f2, (rd_T91 x197002_1 0).f3, (rd_T91 x197002_1 0).f4, (rd_T91 x197002_1 0).f5, t224, (rd_T91 x197002_1 0).f7, (rd_T91 x197002_1 0).f8⟩ : S91)) := ⟨_, rfl⟩
                replace H : (some (t188, t192, y226, t225)) = some (r1, r2, r3, r4) := by first | (rw [hy226]; with_reducible exact H) | (have H2_ := (Option.bind_some _ _).symm.trans H; rw [hy226]; with_reducible exact H2_) | (have H2_ := (Option.bind_some _ _).symm.trans H; with_reducible exact H2_) | with_reducible exact H | (rw [hy226]; exact H) | exact H
                have Ny226 := Aside0.mk hy226
                clear hy226
                simp only [Option.some.injEq, Prod.mk.injEq] at H
                obtain ⟨rfl, rfl, rfl, rfl⟩ := H
                try go_wp2_with (first | ((with_reducible refine gate_callee (f := 73) rfl ?_); refine goesL_ (some 31) rfl rfl Try.func73 (by kernel_rfl) rfl #[.pointer (some ⟨g, 0, none⟩), .int .i64 24] rfl (by (try simp only [List.map_toArray, List.map_cons, List.map_nil]); first | done | rfl | (simp only [List.length_drop, List.length_take]; rfl)) ?_; (with_reducible refine (spec_reader_pick.calls k1 g s0_0 x1001_1 24 t215 t216 w0 _ ?side1 ?side2 A26.out).mono ?_); (case side1 => repeat (first | (with_reducible first | exact HI0.out | apply IsS98.alloc | apply IsS98.drewN | apply IsS98.drew | apply IsS98.set_1 | refine IsS98.far ?_ NB0_187.out _ | refine IsS98.far ?_ NB0_196.out _) | exact HI0.out)); (case side2 => repeat (first | (with_reducible first | exact HB.out | apply below_alloc | apply pw_below_drewN | apply below_drew1 | refine below_set ?_ (IsS98.ge HI0.out) | refine below_set ?_ GE187.out | refine below_set ?_ GE196.out) | exact HB.out)); rintro e w43 ⟨rfl, hi, hb, hk⟩; refine ⟨_, rfl, ?_⟩; have n0_ := Aside0.mk (Kd.R_mono (Kd.R_keep (IsS98.apart (show IsS98 w0 _ g s0_0 x1001_1 from by repeat (first | (with_reducible first | exact HI0.out | apply IsS98.alloc | apply IsS98.drewN | apply IsS98.drew | apply IsS98.set_1 | refine IsS98.far ?_ NB0_187.out _ | refine IsS98.far ?_ NB0_196.out _) | exact HI0.out)) (by (with_reducible repeat (first | apply Kd.R_alloc | apply Kd.R_drewN | apply Kd.R_drew)); exact HO_197000.out) (by decide)) hk (fun _ h => h.2)) (fun _ h => h.1)); have n1_ := Aside0.mk (Kd.R_mono (Kd.R_keep (IsS98.apart (show IsS98 w0 _ g s0_0 x1001_1 from by repeat (first | (with_reducible first | exact HI0.out | apply IsS98.alloc | apply IsS98.drewN | apply IsS98.drew | apply IsS98.set_1 | refine IsS98.far ?_ NB0_187.out _ | refine IsS98.far ?_ NB0_196.out _) | exact HI0.out)) (by (with_reducible repeat (first | apply Kd.R_alloc | apply Kd.R_drewN | apply Kd.R_drew)); exact HO_197001.out) (by decide)) hk (fun _ h => h.2)) (fun _ h => h.1)); have n2_ := Aside0.mk (Kd.R_mono (Kd.R_keep (IsS98.apart (show IsS98 w0 _ g s0_0 x1001_1 from by repeat (first | (with_reducible first | exact HI0.out | apply IsS98.alloc | apply IsS98.drewN | apply IsS98.drew | apply IsS98.set_1 | refine IsS98.far ?_ NB0_187.out _ | refine IsS98.far ?_ NB0_196.out _) | exact HI0.out)) (by (with_reducible repeat (first | apply Kd.R_alloc | apply Kd.R_drewN | apply Kd.R_drew)); exact HO_197002.out) (by decide)) hk (fun _ h => h.2)) (fun _ h => h.1)); have n3_ := Aside0.mk (KeepBut.blk hk (g' := gb187) (o := .cells #[.slice none 0 0, .slice none 0 0, .slice none 0 0] 62 (0, 0)) (by (with_reducible repeat (first | refine blk_drewN ?_ _ | refine blk_drew ?_ | refine blk_alloc ?_ _)); exact BK187.out) NB187_0.out (by simp)); have n4_ := Aside0.mk (KeepBut.blk hk (g' := gb196) (o := .cells #[.slice Ao9 t188.length co9, .slice Ao8 t192.length co8, u197002] 62 (0, 0)) (by (with_reducible repeat (first | refine blk_drewN ?_ _ | refine blk_drew ?_ | refine blk_alloc ?_ _)); exact BK196.out) NB196_0.out (by simp)); have n5_ := Aside0.mk (KeepBut.trans (by repeat (first | (with_reducible first | exact HK.out | apply KeepBut.set_ | apply keep_drewN | apply keep_drew | apply keep_alloc | refine keep_far ?_ GW187.out _ | refine keep_far ?_ GW196.out _) | exact HK.out)) hk (.inl rfl)); have n6_ := Aside0.mk (hb); have n7_ := Aside0.mk (hi); clear HO_197000; clear HO_197001; clear HO_197002; clear BK187; clear BK196; clear HK; clear HB; clear HI0; have HO_197000 := n0_; have HO_197001 := n1_; have HO_197002 := n2_; have BK187 := n3_; have BK196 := n4_; have HK := n5_; have HB := n6_; have HI0 := n7_; clear n0_ n1_ n2_ n3_ n4_ n5_ n6_ n7_; (try clear hb); (try clear hb2); (try clear hk); (try clear hi); have hnb44 := NB196_187.out; have hnc44 := NB187_196.out; have hnb45 := NB196_0.out; have hnc45 := NB0_196.out; have hcz46_0 : w43.cell? ⟨gb196, 0, none⟩ = some (.slice Ao9 t188.length co9) := (blk_cell BK196.out 0).trans rfl; have hcz46_1 : w43.cell? ⟨gb196, 1, none⟩ = some (.slice Ao8 t192.length co8) := (blk_cell BK196.out 1).trans rfl; have hcz46_2 : w43.cell? ⟨gb196, 2, none⟩ = some (u197002) := (blk_cell BK196.out 2).trans rfl; have hfz46_0 := blk_frozen BK196.out 0; have hfz46_1 := blk_frozen BK196.out 1; have hfz46_2 := blk_frozen BK196.out 2; obtain ⟨Ao47, co47, eo47⟩ := Kd.R_slice HO_197002.out; subst eo47))
                have n0_ := Aside0.mk (Kd.R_drew HO_197000.out)
                have n1_ := Aside0.mk (Kd.R_drew HO_197001.out)
                have n2_ := Aside0.mk (Kd.R_drew HO_197002.out)
                have n3_ := Aside0.mk (blk_drew BK187.out)
                have n4_ := Aside0.mk (blk_drew BK196.out)
                have n5_ := Aside0.mk (IsS98.drew HI0.out)
                have n6_ := Aside0.mk (keep_drew HK.out)
                have n7_ := Aside0.mk (below_drew1 HB.out)
                clear HO_197000
                clear HO_197001
                clear HO_197002
                clear BK187
                clear BK196
                clear HI0
                clear HK
                clear HB
                have HO_197000 := n0_
                have HO_197001 := n1_
                have HO_197002 := n2_
                have BK187 := n3_
                have BK196 := n4_
                have HI0 := n5_
                have HK := n6_
                have HB := n7_
                clear n0_ n1_ n2_ n3_ n4_ n5_ n6_ n7_
                refine start_ (n := 8) (S := fun w' => w'.cell? ⟨gb196, 0, none⟩ = some (.slice Ao9 t188.length co9) ∧ w'.cell? ⟨gb196, 1, none⟩ = some (.slice Ao8 t192.length co8) ∧ w'.cell? ⟨gb196, 2, none⟩ = some (.slice Ao47 x197002_1.length co47)) (ds := [7]) #[false, false, false, false, false, false, false, false] (by kernel_rfl) rfl rfl ⟨(blk_cell BK196.out 0).trans rfl, (blk_cell BK196.out 1).trans rfl, (blk_cell BK196.out 2).trans rfl⟩ (fun hHeld => ?_); refine with_tabW spec_someGrid.tab11 spec_someGrid.bits11 (fun HT_ HW_ => ?_)
                generalize w43.drew = w48 at HO_197000 HO_197001 HO_197002 BK187 BK196 HI0 HK HB hHeld ⊢
                refine pure_ (i := 0) (N := some 43) (v := ?_) (a' := ?_) #[true, false, false, false, false, false, false, false] rfl rfl (any_of HT_.out (by kernel_rfl)) (fun _ _ _ h => h) (Or.inl ⟨by rfl, ?_⟩) ?_ ?_
                rotate_left
                · intro w'
                  go_simp
                  with_reducible rfl
                rotate_left
                · simp only [Act.put, List.setIfInBounds_toArray, List.set_cons_zero, List.set_cons_succ, i64_w, i32_w]
                  rfl
                refine pure_ (i := 2) (N := some 45) (v := ?_) (a' := ?_) #[true, false, true, false, false, false, false, false] rfl rfl (any_of HT_.out (by kernel_rfl)) (fun _ _ _ h => h) (Or.inl ⟨by rfl, ?_⟩) ?_ ?_
                rotate_left
                · intro w'
                  go_simp
                  with_reducible rfl
                rotate_left
                · simp only [Act.put, List.setIfInBounds_toArray, List.set_cons_zero, List.set_cons_succ, i64_w, i32_w]
                  rfl
                refine take_ (i := 1) (N := some 44) (v := ?_) (a' := ?_) #[true, true, true, false, false, false, false, false] rfl rfl (take_ofW HT_.out HW_.out (by kernel_rfl)) (fun _ _ _ h => h) (Or.inl ⟨by rfl, ?_⟩) hHeld ?_ ?_
                rotate_left
                · rintro w' ⟨s0, s1, s2⟩
                  go_simp
                  with_reducible rfl
                rotate_left
                · simp only [Act.put, List.setIfInBounds_toArray, List.set_cons_zero, List.set_cons_succ, i64_w, i32_w]
                  rfl
                refine one_ (i := 3) (N := some 46) #[true, true, true, true, false, false, false, false] rfl rfl (one_of HT_.out (by kernel_rfl)) (by decide) (fun K hK => ?_)
                refine Kd.R_lit_step (Kd.int .i64) _ 3 ?hg (N := 46) ?hd (xs := ([(-1), 16] : List Int)) (inner := [.int .i64 (-1), .int .i64 16]) (ok := fun _ => True) (okp := fun _ => True) ?hr ?hp (fun _ hk => hk) trivial (Below.refl _ _) (Nat.le_refl _) (by simp) ?_; (case hd => rfl); (case hg => rfl); (case hr => first | (go_simp; done) | (go_simp; rfl)); (case hp => exact (Reps.one (show Kd.M (Kd.int .i64) _ _ _ (-1) [.int .i64 (-1)] from rfl) (Reps.one (show Kd.M (Kd.int .i64) _ _ _ 16 [.int .i64 16] from rfl) (Reps.none _ _))))
                intro v222 w49 ho50 hb hg_ hnew_
                clear hg_ hnew_
                (first | rw [← Ny221.out] at ho50 | (simp only [Int.reduceToNat] at ho50; rw [← Ny221.out] at ho50))
                have n0_ := Aside0.mk (Kd.R_below (by (with_reducible repeat (first | apply Kd.R_alloc | apply Kd.R_drewN | apply Kd.R_drew)); exact HO_197000.out) hb)
                have n1_ := Aside0.mk (Kd.R_below (by (with_reducible repeat (first | apply Kd.R_alloc | apply Kd.R_drewN | apply Kd.R_drew)); exact HO_197001.out) hb)
                have n2_ := Aside0.mk (Kd.R_below (by (with_reducible repeat (first | apply Kd.R_alloc | apply Kd.R_drewN | apply Kd.R_drew)); exact HO_197002.out) hb)
                have n3_ := Aside0.mk (Kd.R_lower ho50 (keep_size (w := w) (g := g) (row := none) (by repeat (first | (with_reducible first | exact HK.out | apply KeepBut.set_ | apply keep_drewN | apply keep_drew | apply keep_alloc | refine keep_far ?_ GW187.out _ | refine keep_far ?_ GW196.out _) | exact HK.out))))
                have n4_ := Aside0.mk (blk_below (g := gb187) (o := .cells #[.slice none 0 0, .slice none 0 0, .slice none 0 0] 62 (0, 0)) (by (with_reducible repeat (first | refine blk_drewN ?_ _ | refine blk_drew ?_ | refine blk_alloc ?_ _)); exact BK187.out) hb)
                have n5_ := Aside0.mk (blk_below (g := gb196) (o := .cells #[.slice Ao9 t188.length co9, .slice Ao8 t192.length co8, .slice Ao47 x197002_1.length co47] 62 (0, 0)) (by (with_reducible repeat (first | refine blk_drewN ?_ _ | refine blk_drew ?_ | refine blk_alloc ?_ _)); exact BK196.out) hb)
                have n6_ := Aside0.mk (IsS98.below (by repeat (first | (with_reducible first | exact HI0.out | apply IsS98.alloc | apply IsS98.drewN | apply IsS98.drew | apply IsS98.set_1 | refine IsS98.far ?_ NB0_187.out _ | refine IsS98.far ?_ NB0_196.out _) | exact HI0.out)) hb)
                have n7_ := Aside0.mk (KeepBut.trans (by repeat (first | (with_reducible first | exact HK.out | apply KeepBut.set_ | apply keep_drewN | apply keep_drew | apply keep_alloc | refine keep_far ?_ GW187.out _ | refine keep_far ?_ GW196.out _) | exact HK.out)) (KeepBut.of_below hb g none) (.inl rfl))
                have n8_ := Aside0.mk (below_step (by repeat (first | (with_reducible first | exact HB.out | apply below_alloc | apply pw_below_drewN | apply below_drew1 | refine below_set ?_ (IsS98.ge HI0.out) | refine below_set ?_ GE187.out | refine below_set ?_ GE196.out) | exact HB.out)) hb)
                clear HO_197000
                clear HO_197001
                clear HO_197002
                clear BK187
                clear BK196
                clear HI0
                clear HK
                clear HB
                have HO_197000 := n0_
                have HO_197001 := n1_
                have HO_197002 := n2_
                have HO223 := n3_
                have BK187 := n4_
                have BK196 := n5_
                have HI0 := n6_
                have HK := n7_
                have HB := n8_
                clear n0_ n1_ n2_ n3_ n4_ n5_ n6_ n7_ n8_
                clear hb ho50
                obtain ⟨Ao51, co51, eo51⟩ := Kd.R_slice HO223.out
                (first | subst eo51 | (injection eo51 with f1_ f2_ f3_; have f4_ := f1_.symm; have f5_ := f3_.symm; clear f1_ f2_ f3_; subst f4_; subst f5_))
                refine hK.out _ _ ⟨(blk_cell BK196.out 0).trans rfl, (blk_cell BK196.out 1).trans rfl, (blk_cell BK196.out 2).trans rfl⟩ (fun hHeld => ?_)
                clear hK K
                refine norm_ (a' := ?_) ?_ ?_
                rotate_left
                · show Act.put _ (some 46) _ = _
                  simp only [Act.put, List.setIfInBounds_toArray, List.set_cons_zero, List.set_cons_succ, i64_w, i32_w]
                  rfl
                refine one_ (i := 4) (N := some 47) #[true, true, true, true, true, false, false, false] rfl rfl (one_of HT_.out (by kernel_rfl)) (by decide) (fun K hK => ?_)
                refine goes_ Try.func72 (by kernel_rfl) rfl #[.pointer (some ⟨g, 0, none⟩), .slice Ao51 y221.length co51] (by rfl) rfl rfl (by (try simp only [List.map_toArray, List.map_cons, List.map_nil]); first | done | rfl | (simp only [List.length_drop, List.length_take]; rfl)) ?_
                with_reducible refine (spec_reader_one.calls k1 g s0_0 t216 _ _ y221 t224 t225 w0 _ ?side1 ?side2 ?side3 ?side4 ?side5 A40.out).mono ?_
                (case side1 => repeat (first | (with_reducible first | exact HI0.out | apply IsS98.alloc | apply IsS98.drewN | apply IsS98.drew | apply IsS98.set_1 | refine IsS98.far ?_ NB0_187.out _ | refine IsS98.far ?_ NB0_196.out _) | exact HI0.out))
                (case side2 => repeat (first | (with_reducible first | exact HB.out | apply below_alloc | apply pw_below_drewN | apply below_drew1 | refine below_set ?_ (IsS98.ge HI0.out) | refine below_set ?_ GE187.out | refine below_set ?_ GE196.out) | exact HB.out))
                (case side3 => repeat (first | exact (Kd.R_reads' HO223.out).2.2 | (with_reducible refine Kd.C_alloc ?_ _) | (with_reducible refine Kd.C_drewN ?_ _) | (with_reducible refine Kd.C_drew ?_)))
                (case side4 => exact (Kd.R_reads' HO223.out).2.1)
                (case side5 => exact far_slice (IsS98.own_ne HI0.out HO223.out (by decide)))
                rintro e w52 ⟨rfl, hi, hb, hk⟩
                refine ⟨_, rfl, ?_⟩
                have n0_ := Aside0.mk (Kd.R_mono (Kd.R_keep (IsS98.apart (show IsS98 w0 _ g s0_0 t216 from by repeat (first | (with_reducible first | exact HI0.out | apply IsS98.alloc | apply IsS98.drewN | apply IsS98.drew | apply IsS98.set_1 | refine IsS98.far ?_ NB0_187.out _ | refine IsS98.far ?_ NB0_196.out _) | exact HI0.out)) (by (with_reducible repeat (first | apply Kd.R_alloc | apply Kd.R_drewN | apply Kd.R_drew)); exact HO_197000.out) (by decide)) hk (fun _ h => h.2)) (fun _ h => h.1))
                have n1_ := Aside0.mk (Kd.R_mono (Kd.R_keep (IsS98.apart (show IsS98 w0 _ g s0_0 t216 from by repeat (first | (with_reducible first | exact HI0.out | apply IsS98.alloc | apply IsS98.drewN | apply IsS98.drew | apply IsS98.set_1 | refine IsS98.far ?_ NB0_187.out _ | refine IsS98.far ?_ NB0_196.out _) | exact HI0.out)) (by (with_reducible repeat (first | apply Kd.R_alloc | apply Kd.R_drewN | apply Kd.R_drew)); exact HO_197001.out) (by decide)) hk (fun _ h => h.2)) (fun _ h => h.1))
                have n2_ := Aside0.mk (Kd.R_mono (Kd.R_keep (IsS98.apart (show IsS98 w0 _ g s0_0 t216 from by repeat (first | (with_reducible first | exact HI0.out | apply IsS98.alloc | apply IsS98.drewN | apply IsS98.drew | apply IsS98.set_1 | refine IsS98.far ?_ NB0_187.out _ | refine IsS98.far ?_ NB0_196.out _) | exact HI0.out)) (by (with_reducible repeat (first | apply Kd.R_alloc | apply Kd.R_drewN | apply Kd.R_drew)); exact HO_197002.out) (by decide)) hk (fun _ h => h.2)) (fun _ h => h.1))
                have n3_ := Aside0.mk (KeepBut.blk hk (g' := gb187) (o := .cells #[.slice none 0 0, .slice none 0 0, .slice none 0 0] 62 (0, 0)) (by (with_reducible repeat (first | refine blk_drewN ?_ _ | refine blk_drew ?_ | refine blk_alloc ?_ _)); exact BK187.out) NB187_0.out (by simp))
                have n4_ := Aside0.mk (KeepBut.blk hk (g' := gb196) (o := .cells #[.slice Ao9 t188.length co9, .slice Ao8 t192.length co8, .slice Ao47 x197002_1.length co47] 62 (0, 0)) (by (with_reducible repeat (first | refine blk_drewN ?_ _ | refine blk_drew ?_ | refine blk_alloc ?_ _)); exact BK196.out) NB196_0.out (by simp))
                have n5_ := Aside0.mk (Kd.R_mono (Kd.R_keep (IsS98.apart (show IsS98 w0 _ g s0_0 t216 from by repeat (first | (with_reducible first | exact HI0.out | apply IsS98.alloc | apply IsS98.drewN | apply IsS98.drew | apply IsS98.set_1 | refine IsS98.far ?_ NB0_187.out _ | refine IsS98.far ?_ NB0_196.out _) | exact HI0.out)) (by (with_reducible repeat (first | apply Kd.R_alloc | apply Kd.R_drewN | apply Kd.R_drew)); exact HO223.out) (by decide)) hk (fun _ h => h.2)) (fun _ h => h.1))
                have n6_ := Aside0.mk (KeepBut.trans (by repeat (first | (with_reducible first | exact HK.out | apply KeepBut.set_ | apply keep_drewN | apply keep_drew | apply keep_alloc | refine keep_far ?_ GW187.out _ | refine keep_far ?_ GW196.out _) | exact HK.out)) hk (.inl rfl))
                have n7_ := Aside0.mk (hb)
                have n8_ := Aside0.mk (hi)
                clear HO_197000
                clear HO_197001
                clear HO_197002
                clear BK187
                clear BK196
                clear HO223
                clear HK
                clear HB
                clear HI0
                have HO_197000 := n0_
                have HO_197001 := n1_
                have HO_197002 := n2_
                have BK187 := n3_
                have BK196 := n4_
                have HO223 := n5_
                have HK := n6_
                have HB := n7_
                have HI0 := n8_
                clear n0_ n1_ n2_ n3_ n4_ n5_ n6_ n7_ n8_
                (try clear hb)
                (try clear hb2)
                (try clear hk)
                (try clear hi)
                have p42 : 0 ≤ (0 : Int) := (by omega)
                have q42 : (0 : Int) < ((x197002_1.length : Int) : Int) := of_decide_eq_true (by first | (with_reducible assumption) | assumption)
                have qi42 : (0 < x197002_1.length) = True := eq_true (by omega)
                obtain ⟨go42, co42, eo42, gb42, gl42, cl42, HG42⟩ := Kd.R_form HO_197002.out (by omega)
                (first | cases eo42 | (injection eo42 with ea_ en_ ec_; (first | subst ea_ | (injection ea_ with ea_; subst ea_)); subst ec_; clear en_))
                have GB42 := Aside0.mk gb42
                have GG42 := Aside0.mk HG42
                clear gb42 gl42 HG42
                obtain ⟨ce42, hcl42, hM42, hcc42, hfr42⟩ := Kd.R_elem HO_197002.out z91 (0 : Int) p42 q42
                obtain rfl := k91_openM hM42
                have hx42_0 : World.cell? _ ⟨go42, (0 : Int).toNat * 9, none⟩ = some (.int .i64 ((rd_T91 x197002_1 0).f0)) := hcc42 0 _ rfl
                have hx42_1 : World.cell? _ ⟨go42, (0 : Int).toNat * 9 + 1, none⟩ = some (.int .i64 ((rd_T91 x197002_1 0).f1)) := hcc42 1 _ rfl
                have hx42_2 : World.cell? _ ⟨go42, (0 : Int).toNat * 9 + 2, none⟩ = some (.int .i64 ((rd_T91 x197002_1 0).f2)) := hcc42 2 _ rfl
                have hx42_3 : World.cell? _ ⟨go42, (0 : Int).toNat * 9 + 3, none⟩ = some (.int .i64 ((rd_T91 x197002_1 0).f3)) := hcc42 3 _ rfl
                have hx42_4 : World.cell? _ ⟨go42, (0 : Int).toNat * 9 + 4, none⟩ = some (.int .i64 ((rd_T91 x197002_1 0).f4)) := hcc42 4 _ rfl
                have hx42_5 : World.cell? _ ⟨go42, (0 : Int).toNat * 9 + 5, none⟩ = some (.int .i64 ((rd_T91 x197002_1 0).f5)) := hcc42 5 _ rfl
                have hx42_6 : World.cell? _ ⟨go42, (0 : Int).toNat * 9 + 6, none⟩ = some (.int .i64 ((rd_T91 x197002_1 0).f6)) := hcc42 6 _ rfl
                have hx42_7 : World.cell? _ ⟨go42, (0 : Int).toNat * 9 + 7, none⟩ = some (.int .i64 ((rd_T91 x197002_1 0).f7)) := hcc42 7 _ rfl
                have hx42_8 : World.cell? _ ⟨go42, (0 : Int).toNat * 9 + 8, none⟩ = some (.int .i64 ((rd_T91 x197002_1 0).f8)) := hcc42 8 _ rfl
                have hf42_0 : World.frozen? _ ⟨go42, (0 : Int).toNat * 9, none⟩ = false := hfr42 0
                have hf42_1 : World.frozen? _ ⟨go42, (0 : Int).toNat * 9 + 1, none⟩ = false := hfr42 1
                have hf42_2 : World.frozen? _ ⟨go42, (0 : Int).toNat * 9 + 2, none⟩ = false := hfr42 2
                have hf42_3 : World.frozen? _ ⟨go42, (0 : Int).toNat * 9 + 3, none⟩ = false := hfr42 3
                have hf42_4 : World.frozen? _ ⟨go42, (0 : Int).toNat * 9 + 4, none⟩ = false := hfr42 4
                have hf42_5 : World.frozen? _ ⟨go42, (0 : Int).toNat * 9 + 5, none⟩ = false := hfr42 5
                have hf42_6 : World.frozen? _ ⟨go42, (0 : Int).toNat * 9 + 6, none⟩ = false := hfr42 6
                have hf42_7 : World.frozen? _ ⟨go42, (0 : Int).toNat * 9 + 7, none⟩ = false := hfr42 7
                have hf42_8 : World.frozen? _ ⟨go42, (0 : Int).toNat * 9 + 8, none⟩ = false := hfr42 8
                clear hcl42 hcc42 hfr42 hM42
                (try rw [show ((0 : Int)).toNat = 0 from rfl] at hx42_0)
                (try simp only [Nat.reduceMul, Nat.zero_mul, Nat.zero_add, Nat.add_zero, Nat.reduceAdd] at hx42_0)
                (try rw [show ((0 : Int)).toNat = 0 from rfl] at hf42_0)
                (try simp only [Nat.reduceMul, Nat.zero_mul, Nat.zero_add, Nat.add_zero, Nat.reduceAdd] at hf42_0)
                (try rw [show ((0 : Int)).toNat = 0 from rfl] at hx42_1)
                (try simp only [Nat.reduceMul, Nat.zero_mul, Nat.zero_add, Nat.add_zero, Nat.reduceAdd] at hx42_1)
                (try rw [show ((0 : Int)).toNat = 0 from rfl] at hf42_1)
                (try simp only [Nat.reduceMul, Nat.zero_mul, Nat.zero_add, Nat.add_zero, Nat.reduceAdd] at hf42_1)
                (try rw [show ((0 : Int)).toNat = 0 from rfl] at hx42_2)
                (try simp only [Nat.reduceMul, Nat.zero_mul, Nat.zero_add, Nat.add_zero, Nat.reduceAdd] at hx42_2)
                (try rw [show ((0 : Int)).toNat = 0 from rfl] at hf42_2)
                (try simp only [Nat.reduceMul, Nat.zero_mul, Nat.zero_add, Nat.add_zero, Nat.reduceAdd] at hf42_2)
                (try rw [show ((0 : Int)).toNat = 0 from rfl] at hx42_3)
                (try simp only [Nat.reduceMul, Nat.zero_mul, Nat.zero_add, Nat.add_zero, Nat.reduceAdd] at hx42_3)
                (try rw [show ((0 : Int)).toNat = 0 from rfl] at hf42_3)
                (try simp only [Nat.reduceMul, Nat.zero_mul, Nat.zero_add, Nat.add_zero, Nat.reduceAdd] at hf42_3)
                (try rw [show ((0 : Int)).toNat = 0 from rfl] at hx42_4)
                (try simp only [Nat.reduceMul, Nat.zero_mul, Nat.zero_add, Nat.add_zero, Nat.reduceAdd] at hx42_4)
                (try rw [show ((0 : Int)).toNat = 0 from rfl] at hf42_4)
                (try simp only [Nat.reduceMul, Nat.zero_mul, Nat.zero_add, Nat.add_zero, Nat.reduceAdd] at hf42_4)
                (try rw [show ((0 : Int)).toNat = 0 from rfl] at hx42_5)
                (try simp only [Nat.reduceMul, Nat.zero_mul, Nat.zero_add, Nat.add_zero, Nat.reduceAdd] at hx42_5)
                (try rw [show ((0 : Int)).toNat = 0 from rfl] at hf42_5)
                (try simp only [Nat.reduceMul, Nat.zero_mul, Nat.zero_add, Nat.add_zero, Nat.reduceAdd] at hf42_5)
                (try rw [show ((0 : Int)).toNat = 0 from rfl] at hx42_6)
                (try simp only [Nat.reduceMul, Nat.zero_mul, Nat.zero_add, Nat.add_zero, Nat.reduceAdd] at hx42_6)
                (try rw [show ((0 : Int)).toNat = 0 from rfl] at hf42_6)
                (try simp only [Nat.reduceMul, Nat.zero_mul, Nat.zero_add, Nat.add_zero, Nat.reduceAdd] at hf42_6)
                (try rw [show ((0 : Int)).toNat = 0 from rfl] at hx42_7)
                (try simp only [Nat.reduceMul, Nat.zero_mul, Nat.zero_add, Nat.add_zero, Nat.reduceAdd] at hx42_7)
                (try rw [show ((0 : Int)).toNat = 0 from rfl] at hf42_7)
                (try simp only [Nat.reduceMul, Nat.zero_mul, Nat.zero_add, Nat.add_zero, Nat.reduceAdd] at hf42_7)
                (try rw [show ((0 : Int)).toNat = 0 from rfl] at hx42_8)
                (try simp only [Nat.reduceMul, Nat.zero_mul, Nat.zero_add, Nat.add_zero, Nat.reduceAdd] at hx42_8)
                (try rw [show ((0 : Int)).toNat = 0 from rfl] at hf42_8)
                (try simp only [Nat.reduceMul, Nat.zero_mul, Nat.zero_add, Nat.add_zero, Nat.reduceAdd] at hf42_8)
                replace p42 := eq_true p42
                replace q42 := eq_true q42
                have HN0_go42 := Aside0.mk (show g ≠ go42 from by have h_ := IsS98.own_ne HI0.out HO_197002.out (by decide); intro e_; exact h_ (by rw [e_]; rfl))
                obtain ⟨ce53, hcl53, hM53, hcc53, hfr53⟩ := Kd.R_elem HO_197002.out z91 (0 : Int) (by omega) (by have h_ : (0 : Int) < ((x197002_1.length : Int) : Int) := of_decide_eq_true (by first | (with_reducible assumption) | assumption); first | exact h_ | (have e_ := (Kd.R_reads' HO_197002.out).1; omega) | simpa using h_)
                obtain rfl := k91_openM hM53
                have HP53 := (Kd.R_seg HO_197002.out (0 : Int) (by omega) (by have h_ : (0 : Int) < ((x197002_1.length : Int) : Int) := of_decide_eq_true (by first | (with_reducible assumption) | assumption); first | exact h_ | (have e_ := (Kd.R_reads' HO_197002.out).1; omega) | simpa using h_) (seg := [.int .i64 t224]) (j := 6) hcl53 hcc53 (show 7 ≤ 9 from by decide) (x' := (⟨(rd_T91 x197002_1 0).f0, (rd_T91 x197002_1 0).f1, (rd_T91 x197002_1 0).f2, (rd_T91 x197002_1 0).f3, (rd_T91 x197002_1 0).f4, (rd_T91 x197002_1 0).f5, t224, (rd_T91 x197002_1 0).f7, (rd_T91 x197002_1 0).f8⟩ : S91)) (k91_mkM _ _ _ (⟨(rd_T91 x197002_1 0).f0, (rd_T91 x197002_1 0).f1, (rd_T91 x197002_1 0).f2, (rd_T91 x197002_1 0).f3, (rd_T91 x197002_1 0).f4, (rd_T91 x197002_1 0).f5, t224, (rd_T91 x197002_1 0).f7, (rd_T91 x197002_1 0).f8⟩ : S91) ) (fun _ hk => hk)).1
                rw [← Ny226.out] at HP53
                have HQ53 := Aside0.mk HP53
                clear hcl53 hcc53 hfr53 hM53 HP53
                refine hK.out _ _ ⟨(blk_cell BK196.out 0).trans rfl, (blk_cell BK196.out 1).trans rfl, (blk_cell BK196.out 2).trans rfl⟩ (fun hHeld => ?_)
                clear hK K
                refine norm_ (a' := ?_) ?_ ?_
                rotate_left
                · show Act.put _ (some 47) _ = _
                  simp only [Act.put, List.setIfInBounds_toArray, List.set_cons_zero, List.set_cons_succ, i64_w, i32_w]
                  rfl
                refine pure_ (i := 5) (N := some 48) (v := ?_) (a' := ?_) #[true, true, true, true, true, true, false, false] rfl rfl (any_of HT_.out (by kernel_rfl)) (fun _ _ _ h => h) (Or.inl ⟨by rfl, ?_⟩) ?_ ?_
                rotate_left
                · intro w'
                  go_simp
                  with_reducible rfl
                rotate_left
                · simp only [Act.put, List.setIfInBounds_toArray, List.set_cons_zero, List.set_cons_succ, i64_w, i32_w]
                  rfl
                refine pure_ (i := 6) (N := some 49) (v := ?_) (a' := ?_) #[true, true, true, true, true, true, true, false] rfl rfl (any_of HT_.out (by kernel_rfl)) (fun _ _ _ h => h) (Or.inl ⟨by rfl, ?_⟩) ?_ ?_
                rotate_left
                · intro w'
                  go_simp
                  with_reducible rfl
                rotate_left
                · simp only [Act.put, List.setIfInBounds_toArray, List.set_cons_zero, List.set_cons_succ, i64_w, i32_w]
                  rfl
                refine last_ (i := 7) (N := none) #[true, true, true, true, true, true, true, true] rfl rfl (one_of HT_.out (by kernel_rfl)) (by decide) (fun K hK => ?_)
                refine skip_ (w1 := ?_) (by rfl) rfl ?_ ?_
                rotate_left
                · go_simp
                  rfl
                refine hK.out _ _ ?_
                clear hK K
                refine done_ (done_of HT_.out (by kernel_rfl)) ?_
                have n0_ : Aside0 (Kd.R k104 104 (w52.setCell ⟨go42, 6, none⟩ (.int .i64 t224)) w.heap.size (fun k_ => some k_ ≠ (.slice Ao8 t192.length co8 : Value).ownBlock) (.slice Ao9 t188.length co9) t188) := ⟨by (with_reducible repeat (first | apply Kd.R_alloc | apply Kd.R_drewN | apply Kd.R_drew)); exact Kd.R_mono (Kd.R_far (p := ⟨go42, 6, none⟩) (Kd.R_types HO_197000.out GG42.out (by decide)) (fun _ hk => hk.2) (.int .i64 t224)) (fun _ hk => hk.1)⟩
                have n1_ : Aside0 (Kd.R k104 104 (w52.setCell ⟨go42, 6, none⟩ (.int .i64 t224)) w.heap.size (fun k_ => some k_ ≠ (.slice Ao9 t188.length co9 : Value).ownBlock) (.slice Ao8 t192.length co8) t192) := ⟨by (with_reducible repeat (first | apply Kd.R_alloc | apply Kd.R_drewN | apply Kd.R_drew)); exact Kd.R_mono (Kd.R_far (p := ⟨go42, 6, none⟩) (Kd.R_types HO_197001.out GG42.out (by decide)) (fun _ hk => hk.2) (.int .i64 t224)) (fun _ hk => hk.1)⟩
                have n2_ : Aside0 (Kd.R k91 91 (w52.setCell ⟨go42, 6, none⟩ (.int .i64 t224)) w.heap.size (fun _ => True) (.slice (some ⟨go42, 0, none⟩) x197002_1.length co47) y226) := ⟨by (with_reducible repeat (first | apply Kd.R_alloc | apply Kd.R_drewN | apply Kd.R_drew)); exact HQ53.out⟩
                have n3_ : Aside0 (Kd.R (Kd.int .i64) 3 (w52.setCell ⟨go42, 6, none⟩ (.int .i64 t224)) w.heap.size (fun _ => True) (.slice Ao51 y221.length co51) y221) := ⟨by (with_reducible repeat (first | apply Kd.R_alloc | apply Kd.R_drewN | apply Kd.R_drew)); exact Kd.R_mono (Kd.R_far (p := ⟨go42, 6, none⟩) (Kd.R_types HO223.out GG42.out (by decide)) (fun _ hk => hk.2) (.int .i64 t224)) (fun _ hk => trivial)⟩
                have n4_ : Aside0 ((w52.setCell ⟨go42, 6, none⟩ (.int .i64 t224)).heap[gb187]? = some (.cells #[.slice none 0 0, .slice none 0 0, .slice none 0 0] 62 (0, 0))) := ⟨by (with_reducible repeat (first | refine blk_drewN ?_ _ | refine blk_drew ?_ | refine blk_alloc ?_ _)); refine blk_far ?_ (by have h_ := Kd.R_ne HO_197002.out BK187.out (by decide); intro e_; exact h_ (by rw [e_]; rfl)) _; (with_reducible repeat (first | refine blk_drewN ?_ _ | refine blk_drew ?_ | refine blk_alloc ?_ _)); exact BK187.out⟩
                have n5_ : Aside0 ((w52.setCell ⟨go42, 6, none⟩ (.int .i64 t224)).heap[gb196]? = some (.cells #[.slice Ao9 t188.length co9, .slice Ao8 t192.length co8, .slice (some ⟨go42, 0, none⟩) x197002_1.length co47] 62 (0, 0))) := ⟨by (with_reducible repeat (first | refine blk_drewN ?_ _ | refine blk_drew ?_ | refine blk_alloc ?_ _)); refine blk_far ?_ (by have h_ := Kd.R_ne HO_197002.out BK196.out (by decide); intro e_; exact h_ (by rw [e_]; rfl)) _; (with_reducible repeat (first | refine blk_drewN ?_ _ | refine blk_drew ?_ | refine blk_alloc ?_ _)); exact BK196.out⟩
                have n6_ : Aside0 (IsS98 w0 (w52.setCell ⟨go42, 6, none⟩ (.int .i64 t224)) g s0_0 t225) := ⟨by repeat (first | (with_reducible first | exact HI0.out | apply IsS98.alloc | apply IsS98.drewN | apply IsS98.drew | apply IsS98.set_1 | refine IsS98.far ?_ HN0_go42.out _ | refine IsS98.far ?_ NB0_187.out _ | refine IsS98.far ?_ NB0_196.out _) | exact HI0.out)⟩
                have n7_ : Aside0 (KeepBut w (w52.setCell ⟨go42, 6, none⟩ (.int .i64 t224)) g none) := ⟨by repeat (first | (with_reducible first | exact HK.out | apply KeepBut.set_ | apply keep_drewN | apply keep_drew | apply keep_alloc | refine keep_far ?_ GB42.out _ | refine keep_far ?_ GW187.out _ | refine keep_far ?_ GW196.out _) | exact HK.out)⟩
                have n8_ : Aside0 (Below w0.heap.size w0 (w52.setCell ⟨go42, 6, none⟩ (.int .i64 t224))) := ⟨by repeat (first | (with_reducible first | exact HB.out | apply below_alloc | apply pw_below_drewN | apply below_drew1 | refine below_set ?_ (Nat.le_trans HL.out GB42.out) | refine below_set ?_ (IsS98.ge HI0.out) | refine below_set ?_ GE187.out | refine below_set ?_ GE196.out) | exact HB.out)⟩
                (try clear HO_197000)
                (try clear HO_197001)
                (try clear HO_197002)
                (try clear HO223)
                (try clear BK187)
                (try clear BK196)
                (try clear HI0)
                (try clear HK)
                (try clear HB)
                generalize (w52.setCell ⟨go42, 6, none⟩ (.int .i64 t224)) = w54 at n0_ n1_ n2_ n3_ n4_ n5_ n6_ n7_ n8_ ⊢
                have HO_197000 := n0_
                have HO_197001 := n1_
                have HO_197002 := n2_
                have HO223 := n3_
                have BK187 := n4_
                have BK196 := n5_
                have HI0 := n6_
                have HK := n7_
                have HB := n8_
                clear n0_ n1_ n2_ n3_ n4_ n5_ n6_ n7_ n8_
                have hcz55_0 : w54.cell? ⟨gb196, 0, none⟩ = some (.slice Ao9 t188.length co9) := (blk_cell BK196.out 0).trans rfl
                have hcz55_1 : w54.cell? ⟨gb196, 1, none⟩ = some (.slice Ao8 t192.length co8) := (blk_cell BK196.out 1).trans rfl
                have hcz55_2 : w54.cell? ⟨gb196, 2, none⟩ = some (.slice (some ⟨go42, 0, none⟩) x197002_1.length co47) := (blk_cell BK196.out 2).trans rfl
                have hfz55_0 := blk_frozen BK196.out 0
                have hfz55_1 := blk_frozen BK196.out 1
                have hfz55_2 := blk_frozen BK196.out 2
                have hnb56 := NB187_0.out
                have hnc56 := NB0_187.out
                have hcz57_0 : w54.cell? ⟨gb187, 0, none⟩ = some (.slice none 0 0) := (blk_cell BK187.out 0).trans rfl
                have hcz57_1 : w54.cell? ⟨gb187, 1, none⟩ = some (.slice none 0 0) := (blk_cell BK187.out 1).trans rfl
                have hcz57_2 : w54.cell? ⟨gb187, 2, none⟩ = some (.slice none 0 0) := (blk_cell BK187.out 2).trans rfl
                have hfz57_0 := blk_frozen BK187.out 0
                have hfz57_1 := blk_frozen BK187.out 1
                have hfz57_2 := blk_frozen BK187.out 2
                try go_wp2
                refine bodyPost_ret (results_cell_row rfl _ _ gb187 62 #[.slice Ao9 t188.length co9, .slice Ao8 t192.length co8, .slice (some ⟨go42, 0, none⟩) x197002_1.length co47] (0, 0) _ rfl (by (with_reducible repeat (first | refine blk_drewN ?_ _ | refine blk_drew ?_ | refine blk_alloc ?_ _)); refine blk_put (cs := #[.slice Ao9 t188.length co9, .slice Ao8 t192.length co8, .slice none 0 0]) ?_ 2 _ rfl; (with_reducible repeat (first | refine blk_drewN ?_ _ | refine blk_drew ?_ | refine blk_alloc ?_ _)); refine blk_put (cs := #[.slice Ao9 t188.length co9, .slice none 0 0, .slice none 0 0]) ?_ 1 _ rfl; (with_reducible repeat (first | refine blk_drewN ?_ _ | refine blk_drew ?_ | refine blk_alloc ?_ _)); refine blk_put (cs := #[.slice none 0 0, .slice none 0 0, .slice none 0 0]) ?_ 0 _ rfl; (with_reducible repeat (first | refine blk_drewN ?_ _ | refine blk_drew ?_ | refine blk_alloc ?_ _)); exact BK187.out) Try.underlying62 rfl (by kernel_rfl)) rfl ?_
                exact ⟨_, _, _, by first | rfl | (simp [errW_none, errW_some] <;> rfl) | (simp [*, errW_none, errW_some] <;> rfl), by (with_reducible repeat (first | apply Kd.R_alloc | apply Kd.R_drewN | apply Kd.R_drew)); exact Kd.R_mono (Kd.R_far (p := ⟨gb187, 2, none⟩) (Kd.R_far (p := ⟨gb187, 1, none⟩) (Kd.R_far (p := ⟨gb187, 0, none⟩) (Kd.R_types HO_197000.out BK187.out (by decide)) (fun _ hk => hk.2) (.slice Ao9 t188.length co9)) (fun _ hk => hk.2) (.slice Ao8 t192.length co8)) (fun _ hk => hk.2) (.slice (some ⟨go42, 0, none⟩) x197002_1.length co47)) (fun _ hk => hk.1), by (with_reducible repeat (first | apply Kd.R_alloc | apply Kd.R_drewN | apply Kd.R_drew)); exact Kd.R_mono (Kd.R_far (p := ⟨gb187, 2, none⟩) (Kd.R_far (p := ⟨gb187, 1, none⟩) (Kd.R_far (p := ⟨gb187, 0, none⟩) (Kd.R_types HO_197001.out BK187.out (by decide)) (fun _ hk => hk.2) (.slice Ao9 t188.length co9)) (fun _ hk => hk.2) (.slice Ao8 t192.length co8)) (fun _ hk => hk.2) (.slice (some ⟨go42, 0, none⟩) x197002_1.length co47)) (fun _ hk => hk.1), by (with_reducible repeat (first | apply Kd.R_alloc | apply Kd.R_drewN | apply Kd.R_drew)); exact Kd.R_mono (Kd.R_far (p := ⟨gb187, 2, none⟩) (Kd.R_far (p := ⟨gb187, 1, none⟩) (Kd.R_far (p := ⟨gb187, 0, none⟩) (Kd.R_types HO_197002.out BK187.out (by decide)) (fun _ hk => hk.2) (.slice Ao9 t188.length co9)) (fun _ hk => hk.2) (.slice Ao8 t192.length co8)) (fun _ hk => hk.2) (.slice (some ⟨go42, 0, none⟩) x197002_1.length co47)) (fun _ hk => trivial), by repeat (first | (with_reducible first | exact HI0.out | apply IsS98.alloc | apply IsS98.drewN | apply IsS98.drew | apply IsS98.set_1 | refine IsS98.far ?_ NB0_187.out _ | refine IsS98.far ?_ NB0_196.out _) | exact HI0.out), by repeat (first | (with_reducible first | exact HB.out | apply below_alloc | apply pw_below_drewN | apply below_drew1 | refine below_set ?_ (IsS98.ge HI0.out) | refine below_set ?_ GE187.out | refine below_set ?_ GE196.out) | exact HB.out), by repeat (first | (with_reducible first | exact HK.out | apply KeepBut.set_ | apply keep_drewN | apply keep_drew | apply keep_alloc | refine keep_far ?_ GW187.out _ | refine keep_far ?_ GW196.out _) | exact HK.out)⟩
              · rw [if_neg c41] at H
                exact absurd H (by simp)
            · rw [if_neg c39] at H
              have c39b0 : decide (0 < (x197002_1.length : Int)) = false := decide_eq_false c39
              have c39b1 : decide (0 < x197002_1.length) = false := decide_eq_false (by omega)
              clear c39
              simp only [Option.some.injEq, Prod.mk.injEq] at H
              obtain ⟨rfl, rfl, rfl, rfl⟩ := H
              go_wp2_with (first | ((with_reducible refine gate_callee (f := 73) rfl ?_); refine goesL_ (some 31) rfl rfl Try.func73 (by kernel_rfl) rfl #[.pointer (some ⟨g, 0, none⟩), .int .i64 24] rfl (by (try simp only [List.map_toArray, List.map_cons, List.map_nil]); first | done | rfl | (simp only [List.length_drop, List.length_take]; rfl)) ?_; (with_reducible refine (spec_reader_pick.calls k1 g s0_0 x1001_1 24 t215 t216 w0 _ ?side1 ?side2 A26.out).mono ?_); (case side1 => repeat (first | (with_reducible first | exact HI0.out | apply IsS98.alloc | apply IsS98.drewN | apply IsS98.drew | apply IsS98.set_1 | refine IsS98.far ?_ NB0_187.out _ | refine IsS98.far ?_ NB0_196.out _) | exact HI0.out)); (case side2 => repeat (first | (with_reducible first | exact HB.out | apply below_alloc | apply pw_below_drewN | apply below_drew1 | refine below_set ?_ (IsS98.ge HI0.out) | refine below_set ?_ GE187.out | refine below_set ?_ GE196.out) | exact HB.out)); rintro e w58 ⟨rfl, hi, hb, hk⟩; refine ⟨_, rfl, ?_⟩; have n0_ := Aside0.mk (Kd.R_mono (Kd.R_keep (IsS98.apart (show IsS98 w0 _ g s0_0 x1001_1 from by repeat (first | (with_reducible first | exact HI0.out | apply IsS98.alloc | apply IsS98.drewN | apply IsS98.drew | apply IsS98.set_1 | refine IsS98.far ?_ NB0_187.out _ | refine IsS98.far ?_ NB0_196.out _) | exact HI0.out)) (by (with_reducible repeat (first | apply Kd.R_alloc | apply Kd.R_drewN | apply Kd.R_drew)); exact HO_197000.out) (by decide)) hk (fun _ h => h.2)) (fun _ h => h.1)); have n1_ := Aside0.mk (Kd.R_mono (Kd.R_keep (IsS98.apart (show IsS98 w0 _ g s0_0 x1001_1 from by repeat (first | (with_reducible first | exact HI0.out | apply IsS98.alloc | apply IsS98.drewN | apply IsS98.drew | apply IsS98.set_1 | refine IsS98.far ?_ NB0_187.out _ | refine IsS98.far ?_ NB0_196.out _) | exact HI0.out)) (by (with_reducible repeat (first | apply Kd.R_alloc | apply Kd.R_drewN | apply Kd.R_drew)); exact HO_197001.out) (by decide)) hk (fun _ h => h.2)) (fun _ h => h.1)); have n2_ := Aside0.mk (Kd.R_mono (Kd.R_keep (IsS98.apart (show IsS98 w0 _ g s0_0 x1001_1 from by repeat (first | (with_reducible first | exact HI0.out | apply IsS98.alloc | apply IsS98.drewN | apply IsS98.drew | apply IsS98.set_1 | refine IsS98.far ?_ NB0_187.out _ | refine IsS98.far ?_ NB0_196.out _) | exact HI0.out)) (by (with_reducible repeat (first | apply Kd.R_alloc | apply Kd.R_drewN | apply Kd.R_drew)); exact HO_197002.out) (by decide)) hk (fun _ h => h.2)) (fun _ h => h.1)); have n3_ := Aside0.mk (KeepBut.blk hk (g' := gb187) (o := .cells #[.slice none 0 0, .slice none 0 0, .slice none 0 0] 62 (0, 0)) (by (with_reducible repeat (first | refine blk_drewN ?_ _ | refine blk_drew ?_ | refine blk_alloc ?_ _)); exact BK187.out) NB187_0.out (by simp)); have n4_ := Aside0.mk (KeepBut.blk hk (g' := gb196) (o := .cells #[.slice Ao9 t188.length co9, .slice Ao8 t192.length co8, u197002] 62 (0, 0)) (by (with_reducible repeat (first | refine blk_drewN ?_ _ | refine blk_drew ?_ | refine blk_alloc ?_ _)); exact BK196.out) NB196_0.out (by simp)); have n5_ := Aside0.mk (KeepBut.trans (by repeat (first | (with_reducible first | exact HK.out | apply KeepBut.set_ | apply keep_drewN | apply keep_drew | apply keep_alloc | refine keep_far ?_ GW187.out _ | refine keep_far ?_ GW196.out _) | exact HK.out)) hk (.inl rfl)); have n6_ := Aside0.mk (hb); have n7_ := Aside0.mk (hi); clear HO_197000; clear HO_197001; clear HO_197002; clear BK187; clear BK196; clear HK; clear HB; clear HI0; have HO_197000 := n0_; have HO_197001 := n1_; have HO_197002 := n2_; have BK187 := n3_; have BK196 := n4_; have HK := n5_; have HB := n6_; have HI0 := n7_; clear n0_ n1_ n2_ n3_ n4_ n5_ n6_ n7_; (try clear hb); (try clear hb2); (try clear hk); (try clear hi); have hnb59 := NB196_187.out; have hnc59 := NB187_196.out; have hnb60 := NB196_0.out; have hnc60 := NB0_196.out; have hcz61_0 : w58.cell? ⟨gb196, 0, none⟩ = some (.slice Ao9 t188.length co9) := (blk_cell BK196.out 0).trans rfl; have hcz61_1 : w58.cell? ⟨gb196, 1, none⟩ = some (.slice Ao8 t192.length co8) := (blk_cell BK196.out 1).trans rfl; have hcz61_2 : w58.cell? ⟨gb196, 2, none⟩ = some (u197002) := (blk_cell BK196.out 2).trans rfl; have hfz61_0 := blk_frozen BK196.out 0; have hfz61_1 := blk_frozen BK196.out 1; have hfz61_2 := blk_frozen BK196.out 2; obtain ⟨Ao62, co62, eo62⟩ := Kd.R_slice HO_197002.out; subst eo62; have hnb63 := NB187_0.out; have hnc63 := NB0_187.out; have hcz64_0 : w58.cell? ⟨gb187, 0, none⟩ = some (.slice none 0 0) := (blk_cell BK187.out 0).trans rfl; have hcz64_1 : w58.cell? ⟨gb187, 1, none⟩ = some (.slice none 0 0) := (blk_cell BK187.out 1).trans rfl; have hcz64_2 : w58.cell? ⟨gb187, 2, none⟩ = some (.slice none 0 0) := (blk_cell BK187.out 2).trans rfl; have hfz64_0 := blk_frozen BK187.out 0; have hfz64_1 := blk_frozen BK187.out 1; have hfz64_2 := blk_frozen BK187.out 2))
              refine bodyPost_ret (results_cell_row rfl _ _ gb187 62 #[.slice Ao9 t188.length co9, .slice Ao8 t192.length co8, .slice Ao62 x197002_1.length co62] (0, 0) _ rfl (by (with_reducible repeat (first | refine blk_drewN ?_ _ | refine blk_drew ?_ | refine blk_alloc ?_ _)); refine blk_put (cs := #[.slice Ao9 t188.length co9, .slice Ao8 t192.length co8, .slice none 0 0]) ?_ 2 _ rfl; (with_reducible repeat (first | refine blk_drewN ?_ _ | refine blk_drew ?_ | refine blk_alloc ?_ _)); refine blk_put (cs := #[.slice Ao9 t188.length co9, .slice none 0 0, .slice none 0 0]) ?_ 1 _ rfl; (with_reducible repeat (first | refine blk_drewN ?_ _ | refine blk_drew ?_ | refine blk_alloc ?_ _)); refine blk_put (cs := #[.slice none 0 0, .slice none 0 0, .slice none 0 0]) ?_ 0 _ rfl; (with_reducible repeat (first | refine blk_drewN ?_ _ | refine blk_drew ?_ | refine blk_alloc ?_ _)); exact BK187.out) Try.underlying62 rfl (by kernel_rfl)) rfl ?_
              exact ⟨_, _, _, by first | rfl | (simp [errW_none, errW_some] <;> rfl) | (simp [*, errW_none, errW_some] <;> rfl), by (with_reducible repeat (first | apply Kd.R_alloc | apply Kd.R_drewN | apply Kd.R_drew)); exact Kd.R_mono (Kd.R_far (p := ⟨gb187, 2, none⟩) (Kd.R_far (p := ⟨gb187, 1, none⟩) (Kd.R_far (p := ⟨gb187, 0, none⟩) (Kd.R_types HO_197000.out BK187.out (by decide)) (fun _ hk => hk.2) (.slice Ao9 t188.length co9)) (fun _ hk => hk.2) (.slice Ao8 t192.length co8)) (fun _ hk => hk.2) (.slice Ao62 x197002_1.length co62)) (fun _ hk => hk.1), by (with_reducible repeat (first | apply Kd.R_alloc | apply Kd.R_drewN | apply Kd.R_drew)); exact Kd.R_mono (Kd.R_far (p := ⟨gb187, 2, none⟩) (Kd.R_far (p := ⟨gb187, 1, none⟩) (Kd.R_far (p := ⟨gb187, 0, none⟩) (Kd.R_types HO_197001.out BK187.out (by decide)) (fun _ hk => hk.2) (.slice Ao9 t188.length co9)) (fun _ hk => hk.2) (.slice Ao8 t192.length co8)) (fun _ hk => hk.2) (.slice Ao62 x197002_1.length co62)) (fun _ hk => hk.1), by (with_reducible repeat (first | apply Kd.R_alloc | apply Kd.R_drewN | apply Kd.R_drew)); exact Kd.R_mono (Kd.R_far (p := ⟨gb187, 2, none⟩) (Kd.R_far (p := ⟨gb187, 1, none⟩) (Kd.R_far (p := ⟨gb187, 0, none⟩) (Kd.R_types HO_197002.out BK187.out (by decide)) (fun _ hk => hk.2) (.slice Ao9 t188.length co9)) (fun _ hk => hk.2) (.slice Ao8 t192.length co8)) (fun _ hk => hk.2) (.slice Ao62 x197002_1.length co62)) (fun _ hk => trivial), by repeat (first | (with_reducible first | exact HI0.out | apply IsS98.alloc | apply IsS98.drewN | apply IsS98.drew | apply IsS98.set_1 | refine IsS98.far ?_ NB0_187.out _ | refine IsS98.far ?_ NB0_196.out _) | exact HI0.out), by repeat (first | (with_reducible first | exact HB.out | apply below_alloc | apply pw_below_drewN | apply below_drew1 | refine below_set ?_ (IsS98.ge HI0.out) | refine below_set ?_ GE187.out | refine below_set ?_ GE196.out) | exact HB.out), by repeat (first | (with_reducible first | exact HK.out | apply KeepBut.set_ | apply keep_drewN | apply keep_drew | apply keep_alloc | refine keep_far ?_ GW187.out _ | refine keep_far ?_ GW196.out _) | exact HK.out)⟩
          · rw [if_neg c38] at H
            have c38b0 : (t215 == 1) = false := beq_eq_false_iff_ne.mpr c38
            have c38b1 : (t215 != 1) = true := bne_iff_ne.mpr c38
            by_cases c65 : t215 = 2
            · rw [if_pos c65] at H
              have c65b0 : (t215 == 2) = true := beq_iff_eq.mpr c65
              have c65b1 : (t215 != 2) = false := bne_eq_false_iff_eq.mpr c65
              clear c65
              by_cases c66 : (x197002_1.length : Int) > 0
              · rw [if_pos c66] at H
                have c66b0 : decide (0 < (x197002_1.length : Int)) = true := decide_eq_true c66
                have c66b1 : decide (0 < x197002_1.length) = true := decide_eq_true (by omega)
                clear c66
                obtain ⟨y227, hy227⟩ : ∃ y_ : List Int, y_ = (([0, 6] : List Int)) := ⟨_, rfl⟩
                replace H : ((spec_reader_one.f k1 s0_0 t216 y227).bind fun bt230 => (if 0 < (x197002_1.length : Int) then (some (t188, t192, (x197002_1.set (0 : Int).toNat (⟨(rd_T91 x197002_1 0).f0, (rd_T91 x197002_1 0).f1, (rd_T91 x197002_1 0).f2, bt230.1, (rd_T91 x197002_1 0).f4, (rd_T91 x197002_1 0).f5, (rd_T91 x197002_1 0).f6, (rd_T91 x197002_1 0).f7, (rd_T91 x197002_1 0).f8⟩ : S91)), bt230.2)) else (none))) = some (r1, r2, r3, r4) := by first | (rw [hy227]; with_reducible exact H) | (have H2_ := (Option.bind_some _ _).symm.trans H; rw [hy227]; with_reducible exact H2_) | (have H2_ := (Option.bind_some _ _).symm.trans H; with_reducible exact H2_) | with_reducible exact H | (rw [hy227]; exact H) | exact H
                have Ny227 := Aside0.mk hy227
                clear hy227
                replace H := Option.bind_eq_some_iff.mp H
                obtain ⟨⟨t230, t231⟩, A670, H⟩ := H
                replace H : (if 0 < (x197002_1.length : Int) then (some (t188, t192, (x197002_1.set (0 : Int).toNat (⟨(rd_T91 x197002_1 0).f0, (rd_T91 x197002_1 0).f1, (rd_T91 x197002_1 0).f2, t230, (rd_T91 x197002_1 0).f4, (rd_T91 x197002_1 0).f5, (rd_T91 x197002_1 0).f6, (rd_T91 x197002_1 0).f7, (rd_T91 x197002_1 0).f8⟩ : S91)), t231)) else (none)) = some (r1, r2, r3, r4) := H
                have A67 := Aside0.mk A670
                clear A670
                by_cases c68 : 0 < (x197002_1.length : Int)
                · rw [if_pos c68] at H
                  have c68b0 : decide (0 < (x197002_1.length : Int)) = true := decide_eq_true c68
                  have c68b1 : decide (0 < x197002_1.length) = true := decide_eq_true (by omega)
                  clear c68
                  obtain ⟨y232, hy232⟩ : ∃ y_ : List (S91), y_ = (x197002_1.set (0 : Int).toNat (⟨(rd_T91 x197002_1 0).f0, (rd_T91 x197002_1 0).f1, (rd_T91 x197002_1 0).f2, t230, (rd_T91 x197002_1 0).f4, (rd_T91 x197002_1 0).f5, (rd_T91 x197002_1 0).f6, (rd_T91 x197002_1 0).f7, (rd_T91 x197002_1 0).f8⟩ : S91)) := ⟨_, rfl⟩
                  replace H : (some (t188, t192, y232, t231)) = some (r1, r2, r3, r4) := by first | (rw [hy232]; with_reducible exact H) | (have H2_ := (Option.bind_some _ _).symm.trans H; rw [hy232]; with_reducible exact H2_) | (have H2_ := (Option.bind_some _ _).symm.trans H; with_reducible exact H2_) | with_reducible exact H | (rw [hy232]; exact H) | exact H
                  have Ny232 := Aside0.mk hy232
                  clear hy232
                  simp only [Option.some.injEq, Prod.mk.injEq] at H
                  obtain ⟨rfl, rfl, rfl, rfl⟩ := H
                  try go_wp2_with (first | ((with_reducible refine gate_callee (f := 73) rfl ?_); refine goesL_ (some 31) rfl rfl Try.func73 (by kernel_rfl) rfl #[.pointer (some ⟨g, 0, none⟩), .int .i64 24] rfl (by (try simp only [List.map_toArray, List.map_cons, List.map_nil]); first | done | rfl | (simp only [List.length_drop, List.length_take]; rfl)) ?_; (with_reducible refine (spec_reader_pick.calls k1 g s0_0 x1001_1 24 t215 t216 w0 _ ?side1 ?side2 A26.out).mono ?_); (case side1 => repeat (first | (with_reducible first | exact HI0.out | apply IsS98.alloc | apply IsS98.drewN | apply IsS98.drew | apply IsS98.set_1 | refine IsS98.far ?_ NB0_187.out _ | refine IsS98.far ?_ NB0_196.out _) | exact HI0.out)); (case side2 => repeat (first | (with_reducible first | exact HB.out | apply below_alloc | apply pw_below_drewN | apply below_drew1 | refine below_set ?_ (IsS98.ge HI0.out) | refine below_set ?_ GE187.out | refine below_set ?_ GE196.out) | exact HB.out)); rintro e w70 ⟨rfl, hi, hb, hk⟩; refine ⟨_, rfl, ?_⟩; have n0_ := Aside0.mk (Kd.R_mono (Kd.R_keep (IsS98.apart (show IsS98 w0 _ g s0_0 x1001_1 from by repeat (first | (with_reducible first | exact HI0.out | apply IsS98.alloc | apply IsS98.drewN | apply IsS98.drew | apply IsS98.set_1 | refine IsS98.far ?_ NB0_187.out _ | refine IsS98.far ?_ NB0_196.out _) | exact HI0.out)) (by (with_reducible repeat (first | apply Kd.R_alloc | apply Kd.R_drewN | apply Kd.R_drew)); exact HO_197000.out) (by decide)) hk (fun _ h => h.2)) (fun _ h => h.1)); have n1_ := Aside0.mk (Kd.R_mono (Kd.R_keep (IsS98.apart (show IsS98 w0 _ g s0_0 x1001_1 from by repeat (first | (with_reducible first | exact HI0.out | apply IsS98.alloc | apply IsS98.drewN | apply IsS98.drew | apply IsS98.set_1 | refine IsS98.far ?_ NB0_187.out _ | refine IsS98.far ?_ NB0_196.out _) | exact HI0.out)) (by (with_reducible repeat (first | apply Kd.R_alloc | apply Kd.R_drewN | apply Kd.R_drew)); exact HO_197001.out) (by decide)) hk (fun _ h => h.2)) (fun _ h => h.1)); have n2_ := Aside0.mk (Kd.R_mono (Kd.R_keep (IsS98.apart (show IsS98 w0 _ g s0_0 x1001_1 from by repeat (first | (with_reducible first | exact HI0.out | apply IsS98.alloc | apply IsS98.drewN | apply IsS98.drew | apply IsS98.set_1 | refine IsS98.far ?_ NB0_187.out _ | refine IsS98.far ?_ NB0_196.out _) | exact HI0.out)) (by (with_reducible repeat (first | apply Kd.R_alloc | apply Kd.R_drewN | apply Kd.R_drew)); exact HO_197002.out) (by decide)) hk (fun _ h => h.2)) (fun _ h => h.1)); have n3_ := Aside0.mk (KeepBut.blk hk (g' := gb187) (o := .cells #[.slice none 0 0, .slice none 0 0, .slice none 0 0] 62 (0, 0)) (by (with_reducible repeat (first | refine blk_drewN ?_ _ | refine blk_drew ?_ | refine blk_alloc ?_ _)); exact BK187.out) NB187_0.out (by simp)); have n4_ := Aside0.mk (KeepBut.blk hk (g' := gb196) (o := .cells #[.slice Ao9 t188.length co9, .slice Ao8 t192.length co8, u197002] 62 (0, 0)) (by (with_reducible repeat (first | refine blk_drewN ?_ _ | refine blk_drew ?_ | refine blk_alloc ?_ _)); exact BK196.out) NB196_0.out (by simp)); have n5_ := Aside0.mk (KeepBut.trans (by repeat (first | (with_reducible first | exact HK.out | apply KeepBut.set_ | apply keep_drewN | apply keep_drew | apply keep_alloc | refine keep_far ?_ GW187.out _ | refine keep_far ?_ GW196.out _) | exact HK.out)) hk (.inl rfl)); have n6_ := Aside0.mk (hb); have n7_ := Aside0.mk (hi); clear HO_197000; clear HO_197001; clear HO_197002; clear BK187; clear BK196; clear HK; clear HB; clear HI0; have HO_197000 := n0_; have HO_197001 := n1_; have HO_197002 := n2_; have BK187 := n3_; have BK196 := n4_; have HK := n5_; have HB := n6_; have HI0 := n7_; clear n0_ n1_ n2_ n3_ n4_ n5_ n6_ n7_; (try clear hb); (try clear hb2); (try clear hk); (try clear hi); have hnb71 := NB196_187.out; have hnc71 := NB187_196.out; have hnb72 := NB196_0.out; have hnc72 := NB0_196.out; have hcz73_0 : w70.cell? ⟨gb196, 0, none⟩ = some (.slice Ao9 t188.length co9) := (blk_cell BK196.out 0).trans rfl; have hcz73_1 : w70.cell? ⟨gb196, 1, none⟩ = some (.slice Ao8 t192.length co8) := (blk_cell BK196.out 1).trans rfl; have hcz73_2 : w70.cell? ⟨gb196, 2, none⟩ = some (u197002) := (blk_cell BK196.out 2).trans rfl; have hfz73_0 := blk_frozen BK196.out 0; have hfz73_1 := blk_frozen BK196.out 1; have hfz73_2 := blk_frozen BK196.out 2; obtain ⟨Ao74, co74, eo74⟩ := Kd.R_slice HO_197002.out; subst eo74))
                  have n0_ := Aside0.mk (Kd.R_drew HO_197000.out)
                  have n1_ := Aside0.mk (Kd.R_drew HO_197001.out)
                  have n2_ := Aside0.mk (Kd.R_drew HO_197002.out)
                  have n3_ := Aside0.mk (blk_drew BK187.out)
                  have n4_ := Aside0.mk (blk_drew BK196.out)
                  have n5_ := Aside0.mk (IsS98.drew HI0.out)
                  have n6_ := Aside0.mk (keep_drew HK.out)
                  have n7_ := Aside0.mk (below_drew1 HB.out)
                  clear HO_197000
                  clear HO_197001
                  clear HO_197002
                  clear BK187
                  clear BK196
                  clear HI0
                  clear HK
                  clear HB
                  have HO_197000 := n0_
                  have HO_197001 := n1_
                  have HO_197002 := n2_
                  have BK187 := n3_
                  have BK196 := n4_
                  have HI0 := n5_
                  have HK := n6_
                  have HB := n7_
                  clear n0_ n1_ n2_ n3_ n4_ n5_ n6_ n7_
                  refine start_ (n := 8) (S := fun w' => w'.cell? ⟨gb196, 0, none⟩ = some (.slice Ao9 t188.length co9) ∧ w'.cell? ⟨gb196, 1, none⟩ = some (.slice Ao8 t192.length co8) ∧ w'.cell? ⟨gb196, 2, none⟩ = some (.slice Ao74 x197002_1.length co74)) (ds := [7]) #[false, false, false, false, false, false, false, false] (by kernel_rfl) rfl rfl ⟨(blk_cell BK196.out 0).trans rfl, (blk_cell BK196.out 1).trans rfl, (blk_cell BK196.out 2).trans rfl⟩ (fun hHeld => ?_); refine with_tabW spec_someGrid.tab14 spec_someGrid.bits14 (fun HT_ HW_ => ?_)
                  generalize w70.drew = w75 at HO_197000 HO_197001 HO_197002 BK187 BK196 HI0 HK HB hHeld ⊢
                  refine pure_ (i := 0) (N := some 56) (v := ?_) (a' := ?_) #[true, false, false, false, false, false, false, false] rfl rfl (any_of HT_.out (by kernel_rfl)) (fun _ _ _ h => h) (Or.inl ⟨by rfl, ?_⟩) ?_ ?_
                  rotate_left
                  · intro w'
                    go_simp
                    with_reducible rfl
                  rotate_left
                  · simp only [Act.put, List.setIfInBounds_toArray, List.set_cons_zero, List.set_cons_succ, i64_w, i32_w]
                    rfl
                  refine pure_ (i := 2) (N := some 58) (v := ?_) (a' := ?_) #[true, false, true, false, false, false, false, false] rfl rfl (any_of HT_.out (by kernel_rfl)) (fun _ _ _ h => h) (Or.inl ⟨by rfl, ?_⟩) ?_ ?_
                  rotate_left
                  · intro w'
                    go_simp
                    with_reducible rfl
                  rotate_left
                  · simp only [Act.put, List.setIfInBounds_toArray, List.set_cons_zero, List.set_cons_succ, i64_w, i32_w]
                    rfl
                  refine take_ (i := 1) (N := some 57) (v := ?_) (a' := ?_) #[true, true, true, false, false, false, false, false] rfl rfl (take_ofW HT_.out HW_.out (by kernel_rfl)) (fun _ _ _ h => h) (Or.inl ⟨by rfl, ?_⟩) hHeld ?_ ?_
                  rotate_left
                  · rintro w' ⟨s0, s1, s2⟩
                    go_simp
                    with_reducible rfl
                  rotate_left
                  · simp only [Act.put, List.setIfInBounds_toArray, List.set_cons_zero, List.set_cons_succ, i64_w, i32_w]
                    rfl
                  refine one_ (i := 3) (N := some 59) #[true, true, true, true, false, false, false, false] rfl rfl (one_of HT_.out (by kernel_rfl)) (by decide) (fun K hK => ?_)
                  refine Kd.R_lit_step (Kd.int .i64) _ 3 ?hg (N := 59) ?hd (xs := ([0, 6] : List Int)) (inner := [.int .i64 0, .int .i64 6]) (ok := fun _ => True) (okp := fun _ => True) ?hr ?hp (fun _ hk => hk) trivial (Below.refl _ _) (Nat.le_refl _) (by simp) ?_; (case hd => rfl); (case hg => rfl); (case hr => first | (go_simp; done) | (go_simp; rfl)); (case hp => exact (Reps.one (show Kd.M (Kd.int .i64) _ _ _ 0 [.int .i64 0] from rfl) (Reps.one (show Kd.M (Kd.int .i64) _ _ _ 6 [.int .i64 6] from rfl) (Reps.none _ _))))
                  intro v228 w76 ho77 hb hg_ hnew_
                  clear hg_ hnew_
                  (first | rw [← Ny227.out] at ho77 | (simp only [Int.reduceToNat] at ho77; rw [← Ny227.out] at ho77))
                  have n0_ := Aside0.mk (Kd.R_below (by (with_reducible repeat (first | apply Kd.R_alloc | apply Kd.R_drewN | apply Kd.R_drew)); exact HO_197000.out) hb)
                  have n1_ := Aside0.mk (Kd.R_below (by (with_reducible repeat (first | apply Kd.R_alloc | apply Kd.R_drewN | apply Kd.R_drew)); exact HO_197001.out) hb)
                  have n2_ := Aside0.mk (Kd.R_below (by (with_reducible repeat (first | apply Kd.R_alloc | apply Kd.R_drewN | apply Kd.R_drew)); exact HO_197002.out) hb)
                  have n3_ := Aside0.mk (Kd.R_lower ho77 (keep_size (w := w) (g := g) (row := none) (by repeat (first | (with_reducible first | exact HK.out | apply KeepBut.set_ | apply keep_drewN | apply keep_drew | apply keep_alloc | refine keep_far ?_ GW187.out _ | refine keep_far ?_ GW196.out _) | exact HK.out))))
                  have n4_ := Aside0.mk (blk_below (g := gb187) (o := .cells #[.slice none 0 0, .slice none 0 0, .slice none 0 0] 62 (0, 0)) (by (with_reducible repeat (first | refine blk_drewN ?_ _ | refine blk_drew ?_ | refine blk_alloc ?_ _)); exact BK187.out) hb)
                  have n5_ := Aside0.mk (blk_below (g := gb196) (o := .cells #[.slice Ao9 t188.length co9, .slice Ao8 t192.length co8, .slice Ao74 x197002_1.length co74] 62 (0, 0)) (by (with_reducible repeat (first | refine blk_drewN ?_ _ | refine blk_drew ?_ | refine blk_alloc ?_ _)); exact BK196.out) hb)
                  have n6_ := Aside0.mk (IsS98.below (by repeat (first | (with_reducible first | exact HI0.out | apply IsS98.alloc | apply IsS98.drewN | apply IsS98.drew | apply IsS98.set_1 | refine IsS98.far ?_ NB0_187.out _ | refine IsS98.far ?_ NB0_196.out _) | exact HI0.out)) hb)
                  have n7_ := Aside0.mk (KeepBut.trans (by repeat (first | (with_reducible first | exact HK.out | apply KeepBut.set_ | apply keep_drewN | apply keep_drew | apply keep_alloc | refine keep_far ?_ GW187.out _ | refine keep_far ?_ GW196.out _) | exact HK.out)) (KeepBut.of_below hb g none) (.inl rfl))
                  have n8_ := Aside0.mk (below_step (by repeat (first | (with_reducible first | exact HB.out | apply below_alloc | apply pw_below_drewN | apply below_drew1 | refine below_set ?_ (IsS98.ge HI0.out) | refine below_set ?_ GE187.out | refine below_set ?_ GE196.out) | exact HB.out)) hb)
                  clear HO_197000
                  clear HO_197001
                  clear HO_197002
                  clear BK187
                  clear BK196
                  clear HI0
                  clear HK
                  clear HB
                  have HO_197000 := n0_
                  have HO_197001 := n1_
                  have HO_197002 := n2_
                  have HO229 := n3_
                  have BK187 := n4_
                  have BK196 := n5_
                  have HI0 := n6_
                  have HK := n7_
                  have HB := n8_
                  clear n0_ n1_ n2_ n3_ n4_ n5_ n6_ n7_ n8_
                  clear hb ho77
                  obtain ⟨Ao78, co78, eo78⟩ := Kd.R_slice HO229.out
                  (first | subst eo78 | (injection eo78 with f1_ f2_ f3_; have f4_ := f1_.symm; have f5_ := f3_.symm; clear f1_ f2_ f3_; subst f4_; subst f5_))
                  refine hK.out _ _ ⟨(blk_cell BK196.out 0).trans rfl, (blk_cell BK196.out 1).trans rfl, (blk_cell BK196.out 2).trans rfl⟩ (fun hHeld => ?_)
                  clear hK K
                  refine norm_ (a' := ?_) ?_ ?_
                  rotate_left
                  · show Act.put _ (some 59) _ = _
                    simp only [Act.put, List.setIfInBounds_toArray, List.set_cons_zero, List.set_cons_succ, i64_w, i32_w]
                    rfl
                  refine one_ (i := 4) (N := some 60) #[true, true, true, true, true, false, false, false] rfl rfl (one_of HT_.out (by kernel_rfl)) (by decide) (fun K hK => ?_)
                  refine goes_ Try.func72 (by kernel_rfl) rfl #[.pointer (some ⟨g, 0, none⟩), .slice Ao78 y227.length co78] (by rfl) rfl rfl (by (try simp only [List.map_toArray, List.map_cons, List.map_nil]); first | done | rfl | (simp only [List.length_drop, List.length_take]; rfl)) ?_
                  with_reducible refine (spec_reader_one.calls k1 g s0_0 t216 _ _ y227 t230 t231 w0 _ ?side1 ?side2 ?side3 ?side4 ?side5 A67.out).mono ?_
                  (case side1 => repeat (first | (with_reducible first | exact HI0.out | apply IsS98.alloc | apply IsS98.drewN | apply IsS98.drew | apply IsS98.set_1 | refine IsS98.far ?_ NB0_187.out _ | refine IsS98.far ?_ NB0_196.out _) | exact HI0.out))
                  (case side2 => repeat (first | (with_reducible first | exact HB.out | apply below_alloc | apply pw_below_drewN | apply below_drew1 | refine below_set ?_ (IsS98.ge HI0.out) | refine below_set ?_ GE187.out | refine below_set ?_ GE196.out) | exact HB.out))
                  (case side3 => repeat (first | exact (Kd.R_reads' HO229.out).2.2 | (with_reducible refine Kd.C_alloc ?_ _) | (with_reducible refine Kd.C_drewN ?_ _) | (with_reducible refine Kd.C_drew ?_)))
                  (case side4 => exact (Kd.R_reads' HO229.out).2.1)
                  (case side5 => exact far_slice (IsS98.own_ne HI0.out HO229.out (by decide)))
                  rintro e w79 ⟨rfl, hi, hb, hk⟩
                  refine ⟨_, rfl, ?_⟩
                  have n0_ := Aside0.mk (Kd.R_mono (Kd.R_keep (IsS98.apart (show IsS98 w0 _ g s0_0 t216 from by repeat (first | (with_reducible first | exact HI0.out | apply IsS98.alloc | apply IsS98.drewN | apply IsS98.drew | apply IsS98.set_1 | refine IsS98.far ?_ NB0_187.out _ | refine IsS98.far ?_ NB0_196.out _) | exact HI0.out)) (by (with_reducible repeat (first | apply Kd.R_alloc | apply Kd.R_drewN | apply Kd.R_drew)); exact HO_197000.out) (by decide)) hk (fun _ h => h.2)) (fun _ h => h.1))
                  have n1_ := Aside0.mk (Kd.R_mono (Kd.R_keep (IsS98.apart (show IsS98 w0 _ g s0_0 t216 from by repeat (first | (with_reducible first | exact HI0.out | apply IsS98.alloc | apply IsS98.drewN | apply IsS98.drew | apply IsS98.set_1 | refine IsS98.far ?_ NB0_187.out _ | refine IsS98.far ?_ NB0_196.out _) | exact HI0.out)) (by (with_reducible repeat (first | apply Kd.R_alloc | apply Kd.R_drewN | apply Kd.R_drew)); exact HO_197001.out) (by decide)) hk (fun _ h => h.2)) (fun _ h => h.1))
                  have n2_ := Aside0.mk (Kd.R_mono (Kd.R_keep (IsS98.apart (show IsS98 w0 _ g s0_0 t216 from by repeat (first | (with_reducible first | exact HI0.out | apply IsS98.alloc | apply IsS98.drewN | apply IsS98.drew | apply IsS98.set_1 | refine IsS98.far ?_ NB0_187.out _ | refine IsS98.far ?_ NB0_196.out _) | exact HI0.out)) (by (with_reducible repeat (first | apply Kd.R_alloc | apply Kd.R_drewN | apply Kd.R_drew)); exact HO_197002.out) (by decide)) hk (fun _ h => h.2)) (fun _ h => h.1))
                  have n3_ := Aside0.mk (KeepBut.blk hk (g' := gb187) (o := .cells #[.slice none 0 0, .slice none 0 0, .slice none 0 0] 62 (0, 0)) (by (with_reducible repeat (first | refine blk_drewN ?_ _ | refine blk_drew ?_ | refine blk_alloc ?_ _)); exact BK187.out) NB187_0.out (by simp))
                  have n4_ := Aside0.mk (KeepBut.blk hk (g' := gb196) (o := .cells #[.slice Ao9 t188.length co9, .slice Ao8 t192.length co8, .slice Ao74 x197002_1.length co74] 62 (0, 0)) (by (with_reducible repeat (first | refine blk_drewN ?_ _ | refine blk_drew ?_ | refine blk_alloc ?_ _)); exact BK196.out) NB196_0.out (by simp))
                  have n5_ := Aside0.mk (Kd.R_mono (Kd.R_keep (IsS98.apart (show IsS98 w0 _ g s0_0 t216 from by repeat (first | (with_reducible first | exact HI0.out | apply IsS98.alloc | apply IsS98.drewN | apply IsS98.drew | apply IsS98.set_1 | refine IsS98.far ?_ NB0_187.out _ | refine IsS98.far ?_ NB0_196.out _) | exact HI0.out)) (by (with_reducible repeat (first | apply Kd.R_alloc | apply Kd.R_drewN | apply Kd.R_drew)); exact HO229.out) (by decide)) hk (fun _ h => h.2)) (fun _ h => h.1))
                  have n6_ := Aside0.mk (KeepBut.trans (by repeat (first | (with_reducible first | exact HK.out | apply KeepBut.set_ | apply keep_drewN | apply keep_drew | apply keep_alloc | refine keep_far ?_ GW187.out _ | refine keep_far ?_ GW196.out _) | exact HK.out)) hk (.inl rfl))
                  have n7_ := Aside0.mk (hb)
                  have n8_ := Aside0.mk (hi)
                  clear HO_197000
                  clear HO_197001
                  clear HO_197002
                  clear BK187
                  clear BK196
                  clear HO229
                  clear HK
                  clear HB
                  clear HI0
                  have HO_197000 := n0_
                  have HO_197001 := n1_
                  have HO_197002 := n2_
                  have BK187 := n3_
                  have BK196 := n4_
                  have HO229 := n5_
                  have HK := n6_
                  have HB := n7_
                  have HI0 := n8_
                  clear n0_ n1_ n2_ n3_ n4_ n5_ n6_ n7_ n8_
                  (try clear hb)
                  (try clear hb2)
                  (try clear hk)
                  (try clear hi)
                  have p69 : 0 ≤ (0 : Int) := (by omega)
                  have q69 : (0 : Int) < ((x197002_1.length : Int) : Int) := of_decide_eq_true (by first | (with_reducible assumption) | assumption)
                  have qi69 : (0 < x197002_1.length) = True := eq_true (by omega)
                  obtain ⟨go69, co69, eo69, gb69, gl69, cl69, HG69⟩ := Kd.R_form HO_197002.out (by omega)
                  (first | cases eo69 | (injection eo69 with ea_ en_ ec_; (first | subst ea_ | (injection ea_ with ea_; subst ea_)); subst ec_; clear en_))
                  have GB69 := Aside0.mk gb69
                  have GG69 := Aside0.mk HG69
                  clear gb69 gl69 HG69
                  obtain ⟨ce69, hcl69, hM69, hcc69, hfr69⟩ := Kd.R_elem HO_197002.out z91 (0 : Int) p69 q69
                  obtain rfl := k91_openM hM69
                  have hx69_0 : World.cell? _ ⟨go69, (0 : Int).toNat * 9, none⟩ = some (.int .i64 ((rd_T91 x197002_1 0).f0)) := hcc69 0 _ rfl
                  have hx69_1 : World.cell? _ ⟨go69, (0 : Int).toNat * 9 + 1, none⟩ = some (.int .i64 ((rd_T91 x197002_1 0).f1)) := hcc69 1 _ rfl
                  have hx69_2 : World.cell? _ ⟨go69, (0 : Int).toNat * 9 + 2, none⟩ = some (.int .i64 ((rd_T91 x197002_1 0).f2)) := hcc69 2 _ rfl
                  have hx69_3 : World.cell? _ ⟨go69, (0 : Int).toNat * 9 + 3, none⟩ = some (.int .i64 ((rd_T91 x197002_1 0).f3)) := hcc69 3 _ rfl
                  have hx69_4 : World.cell? _ ⟨go69, (0 : Int).toNat * 9 + 4, none⟩ = some (.int .i64 ((rd_T91 x197002_1 0).f4)) := hcc69 4 _ rfl
                  have hx69_5 : World.cell? _ ⟨go69, (0 : Int).toNat * 9 + 5, none⟩ = some (.int .i64 ((rd_T91 x197002_1 0).f5)) := hcc69 5 _ rfl
                  have hx69_6 : World.cell? _ ⟨go69, (0 : Int).toNat * 9 + 6, none⟩ = some (.int .i64 ((rd_T91 x197002_1 0).f6)) := hcc69 6 _ rfl
                  have hx69_7 : World.cell? _ ⟨go69, (0 : Int).toNat * 9 + 7, none⟩ = some (.int .i64 ((rd_T91 x197002_1 0).f7)) := hcc69 7 _ rfl
                  have hx69_8 : World.cell? _ ⟨go69, (0 : Int).toNat * 9 + 8, none⟩ = some (.int .i64 ((rd_T91 x197002_1 0).f8)) := hcc69 8 _ rfl
                  have hf69_0 : World.frozen? _ ⟨go69, (0 : Int).toNat * 9, none⟩ = false := hfr69 0
                  have hf69_1 : World.frozen? _ ⟨go69, (0 : Int).toNat * 9 + 1, none⟩ = false := hfr69 1
                  have hf69_2 : World.frozen? _ ⟨go69, (0 : Int).toNat * 9 + 2, none⟩ = false := hfr69 2
                  have hf69_3 : World.frozen? _ ⟨go69, (0 : Int).toNat * 9 + 3, none⟩ = false := hfr69 3
                  have hf69_4 : World.frozen? _ ⟨go69, (0 : Int).toNat * 9 + 4, none⟩ = false := hfr69 4
                  have hf69_5 : World.frozen? _ ⟨go69, (0 : Int).toNat * 9 + 5, none⟩ = false := hfr69 5
                  have hf69_6 : World.frozen? _ ⟨go69, (0 : Int).toNat * 9 + 6, none⟩ = false := hfr69 6
                  have hf69_7 : World.frozen? _ ⟨go69, (0 : Int).toNat * 9 + 7, none⟩ = false := hfr69 7
                  have hf69_8 : World.frozen? _ ⟨go69, (0 : Int).toNat * 9 + 8, none⟩ = false := hfr69 8
                  clear hcl69 hcc69 hfr69 hM69
                  (try rw [show ((0 : Int)).toNat = 0 from rfl] at hx69_0)
                  (try simp only [Nat.reduceMul, Nat.zero_mul, Nat.zero_add, Nat.add_zero, Nat.reduceAdd] at hx69_0)
                  (try rw [show ((0 : Int)).toNat = 0 from rfl] at hf69_0)
                  (try simp only [Nat.reduceMul, Nat.zero_mul, Nat.zero_add, Nat.add_zero, Nat.reduceAdd] at hf69_0)
                  (try rw [show ((0 : Int)).toNat = 0 from rfl] at hx69_1)
                  (try simp only [Nat.reduceMul, Nat.zero_mul, Nat.zero_add, Nat.add_zero, Nat.reduceAdd] at hx69_1)
                  (try rw [show ((0 : Int)).toNat = 0 from rfl] at hf69_1)
                  (try simp only [Nat.reduceMul, Nat.zero_mul, Nat.zero_add, Nat.add_zero, Nat.reduceAdd] at hf69_1)
                  (try rw [show ((0 : Int)).toNat = 0 from rfl] at hx69_2)
                  (try simp only [Nat.reduceMul, Nat.zero_mul, Nat.zero_add, Nat.add_zero, Nat.reduceAdd] at hx69_2)
                  (try rw [show ((0 : Int)).toNat = 0 from rfl] at hf69_2)
                  (try simp only [Nat.reduceMul, Nat.zero_mul, Nat.zero_add, Nat.add_zero, Nat.reduceAdd] at hf69_2)
                  (try rw [show ((0 : Int)).toNat = 0 from rfl] at hx69_3)
                  (try simp only [Nat.reduceMul, Nat.zero_mul, Nat.zero_add, Nat.add_zero, Nat.reduceAdd] at hx69_3)
                  (try rw [show ((0 : Int)).toNat = 0 from rfl] at hf69_3)
                  (try simp only [Nat.reduceMul, Nat.zero_mul, Nat.zero_add, Nat.add_zero, Nat.reduceAdd] at hf69_3)
                  (try rw [show ((0 : Int)).toNat = 0 from rfl] at hx69_4)
                  (try simp only [Nat.reduceMul, Nat.zero_mul, Nat.zero_add, Nat.add_zero, Nat.reduceAdd] at hx69_4)
                  (try rw [show ((0 : Int)).toNat = 0 from rfl] at hf69_4)
                  (try simp only [Nat.reduceMul, Nat.zero_mul, Nat.zero_add, Nat.add_zero, Nat.reduceAdd] at hf69_4)
                  (try rw [show ((0 : Int)).toNat = 0 from rfl] at hx69_5)
                  (try simp only [Nat.reduceMul, Nat.zero_mul, Nat.zero_add, Nat.add_zero, Nat.reduceAdd] at hx69_5)
                  (try rw [show ((0 : Int)).toNat = 0 from rfl] at hf69_5)
                  (try simp only [Nat.reduceMul, Nat.zero_mul, Nat.zero_add, Nat.add_zero, Nat.reduceAdd] at hf69_5)
                  (try rw [show ((0 : Int)).toNat = 0 from rfl] at hx69_6)
                  (try simp only [Nat.reduceMul, Nat.zero_mul, Nat.zero_add, Nat.add_zero, Nat.reduceAdd] at hx69_6)
                  (try rw [show ((0 : Int)).toNat = 0 from rfl] at hf69_6)
                  (try simp only [Nat.reduceMul, Nat.zero_mul, Nat.zero_add, Nat.add_zero, Nat.reduceAdd] at hf69_6)
                  (try rw [show ((0 : Int)).toNat = 0 from rfl] at hx69_7)
                  (try simp only [Nat.reduceMul, Nat.zero_mul, Nat.zero_add, Nat.add_zero, Nat.reduceAdd] at hx69_7)
                  (try rw [show ((0 : Int)).toNat = 0 from rfl] at hf69_7)
                  (try simp only [Nat.reduceMul, Nat.zero_mul, Nat.zero_add, Nat.add_zero, Nat.reduceAdd] at hf69_7)
                  (try rw [show ((0 : Int)).toNat = 0 from rfl] at hx69_8)
                  (try simp only [Nat.reduceMul, Nat.zero_mul, Nat.zero_add, Nat.add_zero, Nat.reduceAdd] at hx69_8)
                  (try rw [show ((0 : Int)).toNat = 0 from rfl] at hf69_8)
                  (try simp only [Nat.reduceMul, Nat.zero_mul, Nat.zero_add, Nat.add_zero, Nat.reduceAdd] at hf69_8)
                  replace p69 := eq_true p69
                  replace q69 := eq_true q69
                  have HN0_go69 := Aside0.mk (show g ≠ go69 from by have h_ := IsS98.own_ne HI0.out HO_197002.out (by decide); intro e_; exact h_ (by rw [e_]; rfl))
                  obtain ⟨ce80, hcl80, hM80, hcc80, hfr80⟩ := Kd.R_elem HO_197002.out z91 (0 : Int) (by omega) (by have h_ : (0 : Int) < ((x197002_1.length : Int) : Int) := of_decide_eq_true (by first | (with_reducible assumption) | assumption); first | exact h_ | (have e_ := (Kd.R_reads' HO_197002.out).1; omega) | simpa using h_)
                  obtain rfl := k91_openM hM80
                  have HP80 := (Kd.R_seg HO_197002.out (0 : Int) (by omega) (by have h_ : (0 : Int) < ((x197002_1.length : Int) : Int) := of_decide_eq_true (by first | (with_reducible assumption) | assumption); first | exact h_ | (have e_ := (Kd.R_reads' HO_197002.out).1; omega) | simpa using h_) (seg := [.int .i64 t230]) (j := 3) hcl80 hcc80 (show 4 ≤ 9 from by decide) (x' := (⟨(rd_T91 x197002_1 0).f0, (rd_T91 x197002_1 0).f1, (rd_T91 x197002_1 0).f2, t230, (rd_T91 x197002_1 0).f4, (rd_T91 x197002_1 0).f5, (rd_T91 x197002_1 0).f6, (rd_T91 x197002_1 0).f7, (rd_T91 x197002_1 0).f8⟩ : S91)) (k91_mkM _ _ _ (⟨(rd_T91 x197002_1 0).f0, (rd_T91 x197002_1 0).f1, (rd_T91 x197002_1 0).f2, t230, (rd_T91 x197002_1 0).f4, (rd_T91 x197002_1 0).f5, (rd_T91 x197002_1 0).f6, (rd_T91 x197002_1 0).f7, (rd_T91 x197002_1 0).f8⟩ : S91) ) (fun _ hk => hk)).1
                  rw [← Ny232.out] at HP80
                  have HQ80 := Aside0.mk HP80
                  clear hcl80 hcc80 hfr80 hM80 HP80
                  refine hK.out _ _ ⟨(blk_cell BK196.out 0).trans rfl, (blk_cell BK196.out 1).trans rfl, (blk_cell BK196.out 2).trans rfl⟩ (fun hHeld => ?_)
                  clear hK K
                  refine norm_ (a' := ?_) ?_ ?_
                  rotate_left
                  · show Act.put _ (some 60) _ = _
                    simp only [Act.put, List.setIfInBounds_toArray, List.set_cons_zero, List.set_cons_succ, i64_w, i32_w]
                    rfl
                  refine pure_ (i := 5) (N := some 61) (v := ?_) (a' := ?_) #[true, true, true, true, true, true, false, false] rfl rfl (any_of HT_.out (by kernel_rfl)) (fun _ _ _ h => h) (Or.inl ⟨by rfl, ?_⟩) ?_ ?_
                  rotate_left
                  · intro w'
                    go_simp
                    with_reducible rfl
                  rotate_left
                  · simp only [Act.put, List.setIfInBounds_toArray, List.set_cons_zero, List.set_cons_succ, i64_w, i32_w]
                    rfl
                  refine pure_ (i := 6) (N := some 62) (v := ?_) (a' := ?_) #[true, true, true, true, true, true, true, false] rfl rfl (any_of HT_.out (by kernel_rfl)) (fun _ _ _ h => h) (Or.inl ⟨by rfl, ?_⟩) ?_ ?_
                  rotate_left
                  · intro w'
                    go_simp
                    with_reducible rfl
                  rotate_left
                  · simp only [Act.put, List.setIfInBounds_toArray, List.set_cons_zero, List.set_cons_succ, i64_w, i32_w]
                    rfl
                  refine last_ (i := 7) (N := none) #[true, true, true, true, true, true, true, true] rfl rfl (one_of HT_.out (by kernel_rfl)) (by decide) (fun K hK => ?_)
                  refine skip_ (w1 := ?_) (by rfl) rfl ?_ ?_
                  rotate_left
                  · go_simp
                    rfl
                  refine hK.out _ _ ?_
                  clear hK K
                  refine done_ (done_of HT_.out (by kernel_rfl)) ?_
                  have n0_ : Aside0 (Kd.R k104 104 (w79.setCell ⟨go69, 3, none⟩ (.int .i64 t230)) w.heap.size (fun k_ => some k_ ≠ (.slice Ao8 t192.length co8 : Value).ownBlock) (.slice Ao9 t188.length co9) t188) := ⟨by (with_reducible repeat (first | apply Kd.R_alloc | apply Kd.R_drewN | apply Kd.R_drew)); exact Kd.R_mono (Kd.R_far (p := ⟨go69, 3, none⟩) (Kd.R_types HO_197000.out GG69.out (by decide)) (fun _ hk => hk.2) (.int .i64 t230)) (fun _ hk => hk.1)⟩
                  have n1_ : Aside0 (Kd.R k104 104 (w79.setCell ⟨go69, 3, none⟩ (.int .i64 t230)) w.heap.size (fun k_ => some k_ ≠ (.slice Ao9 t188.length co9 : Value).ownBlock) (.slice Ao8 t192.length co8) t192) := ⟨by (with_reducible repeat (first | apply Kd.R_alloc | apply Kd.R_drewN | apply Kd.R_drew)); exact Kd.R_mono (Kd.R_far (p := ⟨go69, 3, none⟩) (Kd.R_types HO_197001.out GG69.out (by decide)) (fun _ hk => hk.2) (.int .i64 t230)) (fun _ hk => hk.1)⟩
                  have n2_ : Aside0 (Kd.R k91 91 (w79.setCell ⟨go69, 3, none⟩ (.int .i64 t230)) w.heap.size (fun _ => True) (.slice (some ⟨go69, 0, none⟩) x197002_1.length co74) y232) := ⟨by (with_reducible repeat (first | apply Kd.R_alloc | apply Kd.R_drewN | apply Kd.R_drew)); exact HQ80.out⟩
                  have n3_ : Aside0 (Kd.R (Kd.int .i64) 3 (w79.setCell ⟨go69, 3, none⟩ (.int .i64 t230)) w.heap.size (fun _ => True) (.slice Ao78 y227.length co78) y227) := ⟨by (with_reducible repeat (first | apply Kd.R_alloc | apply Kd.R_drewN | apply Kd.R_drew)); exact Kd.R_mono (Kd.R_far (p := ⟨go69, 3, none⟩) (Kd.R_types HO229.out GG69.out (by decide)) (fun _ hk => hk.2) (.int .i64 t230)) (fun _ hk => trivial)⟩
                  have n4_ : Aside0 ((w79.setCell ⟨go69, 3, none⟩ (.int .i64 t230)).heap[gb187]? = some (.cells #[.slice none 0 0, .slice none 0 0, .slice none 0 0] 62 (0, 0))) := ⟨by (with_reducible repeat (first | refine blk_drewN ?_ _ | refine blk_drew ?_ | refine blk_alloc ?_ _)); refine blk_far ?_ (by have h_ := Kd.R_ne HO_197002.out BK187.out (by decide); intro e_; exact h_ (by rw [e_]; rfl)) _; (with_reducible repeat (first | refine blk_drewN ?_ _ | refine blk_drew ?_ | refine blk_alloc ?_ _)); exact BK187.out⟩
                  have n5_ : Aside0 ((w79.setCell ⟨go69, 3, none⟩ (.int .i64 t230)).heap[gb196]? = some (.cells #[.slice Ao9 t188.length co9, .slice Ao8 t192.length co8, .slice (some ⟨go69, 0, none⟩) x197002_1.length co74] 62 (0, 0))) := ⟨by (with_reducible repeat (first | refine blk_drewN ?_ _ | refine blk_drew ?_ | refine blk_alloc ?_ _)); refine blk_far ?_ (by have h_ := Kd.R_ne HO_197002.out BK196.out (by decide); intro e_; exact h_ (by rw [e_]; rfl)) _; (with_reducible repeat (first | refine blk_drewN ?_ _ | refine blk_drew ?_ | refine blk_alloc ?_ _)); exact BK196.out⟩
                  have n6_ : Aside0 (IsS98 w0 (w79.setCell ⟨go69, 3, none⟩ (.int .i64 t230)) g s0_0 t231) := ⟨by repeat (first | (with_reducible first | exact HI0.out | apply IsS98.alloc | apply IsS98.drewN | apply IsS98.drew | apply IsS98.set_1 | refine IsS98.far ?_ HN0_go69.out _ | refine IsS98.far ?_ NB0_187.out _ | refine IsS98.far ?_ NB0_196.out _) | exact HI0.out)⟩
                  have n7_ : Aside0 (KeepBut w (w79.setCell ⟨go69, 3, none⟩ (.int .i64 t230)) g none) := ⟨by repeat (first | (with_reducible first | exact HK.out | apply KeepBut.set_ | apply keep_drewN | apply keep_drew | apply keep_alloc | refine keep_far ?_ GB69.out _ | refine keep_far ?_ GW187.out _ | refine keep_far ?_ GW196.out _) | exact HK.out)⟩
                  have n8_ : Aside0 (Below w0.heap.size w0 (w79.setCell ⟨go69, 3, none⟩ (.int .i64 t230))) := ⟨by repeat (first | (with_reducible first | exact HB.out | apply below_alloc | apply pw_below_drewN | apply below_drew1 | refine below_set ?_ (Nat.le_trans HL.out GB69.out) | refine below_set ?_ (IsS98.ge HI0.out) | refine below_set ?_ GE187.out | refine below_set ?_ GE196.out) | exact HB.out)⟩
                  (try clear HO_197000)
                  (try clear HO_197001)
                  (try clear HO_197002)
                  (try clear HO229)
                  (try clear BK187)
                  (try clear BK196)
                  (try clear HI0)
                  (try clear HK)
                  (try clear HB)
                  generalize (w79.setCell ⟨go69, 3, none⟩ (.int .i64 t230)) = w81 at n0_ n1_ n2_ n3_ n4_ n5_ n6_ n7_ n8_ ⊢
                  have HO_197000 := n0_
                  have HO_197001 := n1_
                  have HO_197002 := n2_
                  have HO229 := n3_
                  have BK187 := n4_
                  have BK196 := n5_
                  have HI0 := n6_
                  have HK := n7_
                  have HB := n8_
                  clear n0_ n1_ n2_ n3_ n4_ n5_ n6_ n7_ n8_
                  have hcz82_0 : w81.cell? ⟨gb196, 0, none⟩ = some (.slice Ao9 t188.length co9) := (blk_cell BK196.out 0).trans rfl
                  have hcz82_1 : w81.cell? ⟨gb196, 1, none⟩ = some (.slice Ao8 t192.length co8) := (blk_cell BK196.out 1).trans rfl
                  have hcz82_2 : w81.cell? ⟨gb196, 2, none⟩ = some (.slice (some ⟨go69, 0, none⟩) x197002_1.length co74) := (blk_cell BK196.out 2).trans rfl
                  have hfz82_0 := blk_frozen BK196.out 0
                  have hfz82_1 := blk_frozen BK196.out 1
                  have hfz82_2 := blk_frozen BK196.out 2
                  have hnb83 := NB187_0.out
                  have hnc83 := NB0_187.out
                  have hcz84_0 : w81.cell? ⟨gb187, 0, none⟩ = some (.slice none 0 0) := (blk_cell BK187.out 0).trans rfl
                  have hcz84_1 : w81.cell? ⟨gb187, 1, none⟩ = some (.slice none 0 0) := (blk_cell BK187.out 1).trans rfl
                  have hcz84_2 : w81.cell? ⟨gb187, 2, none⟩ = some (.slice none 0 0) := (blk_cell BK187.out 2).trans rfl
                  have hfz84_0 := blk_frozen BK187.out 0
                  have hfz84_1 := blk_frozen BK187.out 1
                  have hfz84_2 := blk_frozen BK187.out 2
                  try go_wp2
                  refine bodyPost_ret (results_cell_row rfl _ _ gb187 62 #[.slice Ao9 t188.length co9, .slice Ao8 t192.length co8, .slice (some ⟨go69, 0, none⟩) x197002_1.length co74] (0, 0) _ rfl (by (with_reducible repeat (first | refine blk_drewN ?_ _ | refine blk_drew ?_ | refine blk_alloc ?_ _)); refine blk_put (cs := #[.slice Ao9 t188.length co9, .slice Ao8 t192.length co8, .slice none 0 0]) ?_ 2 _ rfl; (with_reducible repeat (first | refine blk_drewN ?_ _ | refine blk_drew ?_ | refine blk_alloc ?_ _)); refine blk_put (cs := #[.slice Ao9 t188.length co9, .slice none 0 0, .slice none 0 0]) ?_ 1 _ rfl; (with_reducible repeat (first | refine blk_drewN ?_ _ | refine blk_drew ?_ | refine blk_alloc ?_ _)); refine blk_put (cs := #[.slice none 0 0, .slice none 0 0, .slice none 0 0]) ?_ 0 _ rfl; (with_reducible repeat (first | refine blk_drewN ?_ _ | refine blk_drew ?_ | refine blk_alloc ?_ _)); exact BK187.out) Try.underlying62 rfl (by kernel_rfl)) rfl ?_
                  exact ⟨_, _, _, by first | rfl | (simp [errW_none, errW_some] <;> rfl) | (simp [*, errW_none, errW_some] <;> rfl), by (with_reducible repeat (first | apply Kd.R_alloc | apply Kd.R_drewN | apply Kd.R_drew)); exact Kd.R_mono (Kd.R_far (p := ⟨gb187, 2, none⟩) (Kd.R_far (p := ⟨gb187, 1, none⟩) (Kd.R_far (p := ⟨gb187, 0, none⟩) (Kd.R_types HO_197000.out BK187.out (by decide)) (fun _ hk => hk.2) (.slice Ao9 t188.length co9)) (fun _ hk => hk.2) (.slice Ao8 t192.length co8)) (fun _ hk => hk.2) (.slice (some ⟨go69, 0, none⟩) x197002_1.length co74)) (fun _ hk => hk.1), by (with_reducible repeat (first | apply Kd.R_alloc | apply Kd.R_drewN | apply Kd.R_drew)); exact Kd.R_mono (Kd.R_far (p := ⟨gb187, 2, none⟩) (Kd.R_far (p := ⟨gb187, 1, none⟩) (Kd.R_far (p := ⟨gb187, 0, none⟩) (Kd.R_types HO_197001.out BK187.out (by decide)) (fun _ hk => hk.2) (.slice Ao9 t188.length co9)) (fun _ hk => hk.2) (.slice Ao8 t192.length co8)) (fun _ hk => hk.2) (.slice (some ⟨go69, 0, none⟩) x197002_1.length co74)) (fun _ hk => hk.1), by (with_reducible repeat (first | apply Kd.R_alloc | apply Kd.R_drewN | apply Kd.R_drew)); exact Kd.R_mono (Kd.R_far (p := ⟨gb187, 2, none⟩) (Kd.R_far (p := ⟨gb187, 1, none⟩) (Kd.R_far (p := ⟨gb187, 0, none⟩) (Kd.R_types HO_197002.out BK187.out (by decide)) (fun _ hk => hk.2) (.slice Ao9 t188.length co9)) (fun _ hk => hk.2) (.slice Ao8 t192.length co8)) (fun _ hk => hk.2) (.slice (some ⟨go69, 0, none⟩) x197002_1.length co74)) (fun _ hk => trivial), by repeat (first | (with_reducible first | exact HI0.out | apply IsS98.alloc | apply IsS98.drewN | apply IsS98.drew | apply IsS98.set_1 | refine IsS98.far ?_ NB0_187.out _ | refine IsS98.far ?_ NB0_196.out _) | exact HI0.out), by repeat (first | (with_reducible first | exact HB.out | apply below_alloc | apply pw_below_drewN | apply below_drew1 | refine below_set ?_ (IsS98.ge HI0.out) | refine below_set ?_ GE187.out | refine below_set ?_ GE196.out) | exact HB.out), by repeat (first | (with_reducible first | exact HK.out | apply KeepBut.set_ | apply keep_drewN | apply keep_drew | apply keep_alloc | refine keep_far ?_ GW187.out _ | refine keep_far ?_ GW196.out _) | exact HK.out)⟩
                · rw [if_neg c68] at H
                  exact absurd H (by simp)
              · rw [if_neg c66] at H
                have c66b0 : decide (0 < (x197002_1.length : Int)) = false := decide_eq_false c66
                have c66b1 : decide (0 < x197002_1.length) = false := decide_eq_false (by omega)
                clear c66
                simp only [Option.some.injEq, Prod.mk.injEq] at H
                obtain ⟨rfl, rfl, rfl, rfl⟩ := H
                go_wp2_with (first | ((with_reducible refine gate_callee (f := 73) rfl ?_); refine goesL_ (some 31) rfl rfl Try.func73 (by kernel_rfl) rfl #[.pointer (some ⟨g, 0, none⟩), .int .i64 24] rfl (by (try simp only [List.map_toArray, List.map_cons, List.map_nil]); first | done | rfl | (simp only [List.length_drop, List.length_take]; rfl)) ?_; (with_reducible refine (spec_reader_pick.calls k1 g s0_0 x1001_1 24 t215 t216 w0 _ ?side1 ?side2 A26.out).mono ?_); (case side1 => repeat (first | (with_reducible first | exact HI0.out | apply IsS98.alloc | apply IsS98.drewN | apply IsS98.drew | apply IsS98.set_1 | refine IsS98.far ?_ NB0_187.out _ | refine IsS98.far ?_ NB0_196.out _) | exact HI0.out)); (case side2 => repeat (first | (with_reducible first | exact HB.out | apply below_alloc | apply pw_below_drewN | apply below_drew1 | refine below_set ?_ (IsS98.ge HI0.out) | refine below_set ?_ GE187.out | refine below_set ?_ GE196.out) | exact HB.out)); rintro e w85 ⟨rfl, hi, hb, hk⟩; refine ⟨_, rfl, ?_⟩; have n0_ := Aside0.mk (Kd.R_mono (Kd.R_keep (IsS98.apart (show IsS98 w0 _ g s0_0 x1001_1 from by repeat (first | (with_reducible first | exact HI0.out | apply IsS98.alloc | apply IsS98.drewN | apply IsS98.drew | apply IsS98.set_1 | refine IsS98.far ?_ NB0_187.out _ | refine IsS98.far ?_ NB0_196.out _) | exact HI0.out)) (by (with_reducible repeat (first | apply Kd.R_alloc | apply Kd.R_drewN | apply Kd.R_drew)); exact HO_197000.out) (by decide)) hk (fun _ h => h.2)) (fun _ h => h.1)); have n1_ := Aside0.mk (Kd.R_mono (Kd.R_keep (IsS98.apart (show IsS98 w0 _ g s0_0 x1001_1 from by repeat (first | (with_reducible first | exact HI0.out | apply IsS98.alloc | apply IsS98.drewN | apply IsS98.drew | apply IsS98.set_1 | refine IsS98.far ?_ NB0_187.out _ | refine IsS98.far ?_ NB0_196.out _) | exact HI0.out)) (by (with_reducible repeat (first | apply Kd.R_alloc | apply Kd.R_drewN | apply Kd.R_drew)); exact HO_197001.out) (by decide)) hk (fun _ h => h.2)) (fun _ h => h.1)); have n2_ := Aside0.mk (Kd.R_mono (Kd.R_keep (IsS98.apart (show IsS98 w0 _ g s0_0 x1001_1 from by repeat (first | (with_reducible first | exact HI0.out | apply IsS98.alloc | apply IsS98.drewN | apply IsS98.drew | apply IsS98.set_1 | refine IsS98.far ?_ NB0_187.out _ | refine IsS98.far ?_ NB0_196.out _) | exact HI0.out)) (by (with_reducible repeat (first | apply Kd.R_alloc | apply Kd.R_drewN | apply Kd.R_drew)); exact HO_197002.out) (by decide)) hk (fun _ h => h.2)) (fun _ h => h.1)); have n3_ := Aside0.mk (KeepBut.blk hk (g' := gb187) (o := .cells #[.slice none 0 0, .slice none 0 0, .slice none 0 0] 62 (0, 0)) (by (with_reducible repeat (first | refine blk_drewN ?_ _ | refine blk_drew ?_ | refine blk_alloc ?_ _)); exact BK187.out) NB187_0.out (by simp)); have n4_ := Aside0.mk (KeepBut.blk hk (g' := gb196) (o := .cells #[.slice Ao9 t188.length co9, .slice Ao8 t192.length co8, u197002] 62 (0, 0)) (by (with_reducible repeat (first | refine blk_drewN ?_ _ | refine blk_drew ?_ | refine blk_alloc ?_ _)); exact BK196.out) NB196_0.out (by simp)); have n5_ := Aside0.mk (KeepBut.trans (by repeat (first | (with_reducible first | exact HK.out | apply KeepBut.set_ | apply keep_drewN | apply keep_drew | apply keep_alloc | refine keep_far ?_ GW187.out _ | refine keep_far ?_ GW196.out _) | exact HK.out)) hk (.inl rfl)); have n6_ := Aside0.mk (hb); have n7_ := Aside0.mk (hi); clear HO_197000; clear HO_197001; clear HO_197002; clear BK187; clear BK196; clear HK; clear HB; clear HI0; have HO_197000 := n0_; have HO_197001 := n1_; have HO_197002 := n2_; have BK187 := n3_; have BK196 := n4_; have HK := n5_; have HB := n6_; have HI0 := n7_; clear n0_ n1_ n2_ n3_ n4_ n5_ n6_ n7_; (try clear hb); (try clear hb2); (try clear hk); (try clear hi); have hnb86 := NB196_187.out; have hnc86 := NB187_196.out; have hnb87 := NB196_0.out; have hnc87 := NB0_196.out; have hcz88_0 : w85.cell? ⟨gb196, 0, none⟩ = some (.slice Ao9 t188.length co9) := (blk_cell BK196.out 0).trans rfl; have hcz88_1 : w85.cell? ⟨gb196, 1, none⟩ = some (.slice Ao8 t192.length co8) := (blk_cell BK196.out 1).trans rfl; have hcz88_2 : w85.cell? ⟨gb196, 2, none⟩ = some (u197002) := (blk_cell BK196.out 2).trans rfl; have hfz88_0 := blk_frozen BK196.out 0; have hfz88_1 := blk_frozen BK196.out 1; have hfz88_2 := blk_frozen BK196.out 2; obtain ⟨Ao89, co89, eo89⟩ := Kd.R_slice HO_197002.out; subst eo89; have hnb90 := NB187_0.out; have hnc90 := NB0_187.out; have hcz91_0 : w85.cell? ⟨gb187, 0, none⟩ = some (.slice none 0 0) := (blk_cell BK187.out 0).trans rfl; have hcz91_1 : w85.cell? ⟨gb187, 1, none⟩ = some (.slice none 0 0) := (blk_cell BK187.out 1).trans rfl; have hcz91_2 : w85.cell? ⟨gb187, 2, none⟩ = some (.slice none 0 0) := (blk_cell BK187.out 2).trans rfl; have hfz91_0 := blk_frozen BK187.out 0; have hfz91_1 := blk_frozen BK187.out 1; have hfz91_2 := blk_frozen BK187.out 2))
                refine bodyPost_ret (results_cell_row rfl _ _ gb187 62 #[.slice Ao9 t188.length co9, .slice Ao8 t192.length co8, .slice Ao89 x197002_1.length co89] (0, 0) _ rfl (by (with_reducible repeat (first | refine blk_drewN ?_ _ | refine blk_drew ?_ | refine blk_alloc ?_ _)); refine blk_put (cs := #[.slice Ao9 t188.length co9, .slice Ao8 t192.length co8, .slice none 0 0]) ?_ 2 _ rfl; (with_reducible repeat (first | refine blk_drewN ?_ _ | refine blk_drew ?_ | refine blk_alloc ?_ _)); refine blk_put (cs := #[.slice Ao9 t188.length co9, .slice none 0 0, .slice none 0 0]) ?_ 1 _ rfl; (with_reducible repeat (first | refine blk_drewN ?_ _ | refine blk_drew ?_ | refine blk_alloc ?_ _)); refine blk_put (cs := #[.slice none 0 0, .slice none 0 0, .slice none 0 0]) ?_ 0 _ rfl; (with_reducible repeat (first | refine blk_drewN ?_ _ | refine blk_drew ?_ | refine blk_alloc ?_ _)); exact BK187.out) Try.underlying62 rfl (by kernel_rfl)) rfl ?_
                exact ⟨_, _, _, by first | rfl | (simp [errW_none, errW_some] <;> rfl) | (simp [*, errW_none, errW_some] <;> rfl), by (with_reducible repeat (first | apply Kd.R_alloc | apply Kd.R_drewN | apply Kd.R_drew)); exact Kd.R_mono (Kd.R_far (p := ⟨gb187, 2, none⟩) (Kd.R_far (p := ⟨gb187, 1, none⟩) (Kd.R_far (p := ⟨gb187, 0, none⟩) (Kd.R_types HO_197000.out BK187.out (by decide)) (fun _ hk => hk.2) (.slice Ao9 t188.length co9)) (fun _ hk => hk.2) (.slice Ao8 t192.length co8)) (fun _ hk => hk.2) (.slice Ao89 x197002_1.length co89)) (fun _ hk => hk.1), by (with_reducible repeat (first | apply Kd.R_alloc | apply Kd.R_drewN | apply Kd.R_drew)); exact Kd.R_mono (Kd.R_far (p := ⟨gb187, 2, none⟩) (Kd.R_far (p := ⟨gb187, 1, none⟩) (Kd.R_far (p := ⟨gb187, 0, none⟩) (Kd.R_types HO_197001.out BK187.out (by decide)) (fun _ hk => hk.2) (.slice Ao9 t188.length co9)) (fun _ hk => hk.2) (.slice Ao8 t192.length co8)) (fun _ hk => hk.2) (.slice Ao89 x197002_1.length co89)) (fun _ hk => hk.1), by (with_reducible repeat (first | apply Kd.R_alloc | apply Kd.R_drewN | apply Kd.R_drew)); exact Kd.R_mono (Kd.R_far (p := ⟨gb187, 2, none⟩) (Kd.R_far (p := ⟨gb187, 1, none⟩) (Kd.R_far (p := ⟨gb187, 0, none⟩) (Kd.R_types HO_197002.out BK187.out (by decide)) (fun _ hk => hk.2) (.slice Ao9 t188.length co9)) (fun _ hk => hk.2) (.slice Ao8 t192.length co8)) (fun _ hk => hk.2) (.slice Ao89 x197002_1.length co89)) (fun _ hk => trivial), by repeat (first | (with_reducible first | exact HI0.out | apply IsS98.alloc | apply IsS98.drewN | apply IsS98.drew | apply IsS98.set_1 | refine IsS98.far ?_ NB0_187.out _ | refine IsS98.far ?_ NB0_196.out _) | exact HI0.out), by repeat (first | (with_reducible first | exact HB.out | apply below_alloc | apply pw_below_drewN | apply below_drew1 | refine below_set ?_ (IsS98.ge HI0.out) | refine below_set ?_ GE187.out | refine below_set ?_ GE196.out) | exact HB.out), by repeat (first | (with_reducible first | exact HK.out | apply KeepBut.set_ | apply keep_drewN | apply keep_drew | apply keep_alloc | refine keep_far ?_ GW187.out _ | refine keep_far ?_ GW196.out _) | exact HK.out)⟩
            · rw [if_neg c65] at H
              have c65b0 : (t215 == 2) = false := beq_eq_false_iff_ne.mpr c65
              have c65b1 : (t215 != 2) = true := bne_iff_ne.mpr c65
              simp only [Option.some.injEq, Prod.mk.injEq] at H
              obtain ⟨rfl, rfl, rfl, rfl⟩ := H
              go_wp2_with (first | ((with_reducible refine gate_callee (f := 73) rfl ?_); refine goesL_ (some 31) rfl rfl Try.func73 (by kernel_rfl) rfl #[.pointer (some ⟨g, 0, none⟩), .int .i64 24] rfl (by (try simp only [List.map_toArray, List.map_cons, List.map_nil]); first | done | rfl | (simp only [List.length_drop, List.length_take]; rfl)) ?_; (with_reducible refine (spec_reader_pick.calls k1 g s0_0 x1001_1 24 t215 t216 w0 _ ?side1 ?side2 A26.out).mono ?_); (case side1 => repeat (first | (with_reducible first | exact HI0.out | apply IsS98.alloc | apply IsS98.drewN | apply IsS98.drew | apply IsS98.set_1 | refine IsS98.far ?_ NB0_187.out _ | refine IsS98.far ?_ NB0_196.out _) | exact HI0.out)); (case side2 => repeat (first | (with_reducible first | exact HB.out | apply below_alloc | apply pw_below_drewN | apply below_drew1 | refine below_set ?_ (IsS98.ge HI0.out) | refine below_set ?_ GE187.out | refine below_set ?_ GE196.out) | exact HB.out)); rintro e w92 ⟨rfl, hi, hb, hk⟩; refine ⟨_, rfl, ?_⟩; have n0_ := Aside0.mk (Kd.R_mono (Kd.R_keep (IsS98.apart (show IsS98 w0 _ g s0_0 x1001_1 from by repeat (first | (with_reducible first | exact HI0.out | apply IsS98.alloc | apply IsS98.drewN | apply IsS98.drew | apply IsS98.set_1 | refine IsS98.far ?_ NB0_187.out _ | refine IsS98.far ?_ NB0_196.out _) | exact HI0.out)) (by (with_reducible repeat (first | apply Kd.R_alloc | apply Kd.R_drewN | apply Kd.R_drew)); exact HO_197000.out) (by decide)) hk (fun _ h => h.2)) (fun _ h => h.1)); have n1_ := Aside0.mk (Kd.R_mono (Kd.R_keep (IsS98.apart (show IsS98 w0 _ g s0_0 x1001_1 from by repeat (first | (with_reducible first | exact HI0.out | apply IsS98.alloc | apply IsS98.drewN | apply IsS98.drew | apply IsS98.set_1 | refine IsS98.far ?_ NB0_187.out _ | refine IsS98.far ?_ NB0_196.out _) | exact HI0.out)) (by (with_reducible repeat (first | apply Kd.R_alloc | apply Kd.R_drewN | apply Kd.R_drew)); exact HO_197001.out) (by decide)) hk (fun _ h => h.2)) (fun _ h => h.1)); have n2_ := Aside0.mk (Kd.R_mono (Kd.R_keep (IsS98.apart (show IsS98 w0 _ g s0_0 x1001_1 from by repeat (first | (with_reducible first | exact HI0.out | apply IsS98.alloc | apply IsS98.drewN | apply IsS98.drew | apply IsS98.set_1 | refine IsS98.far ?_ NB0_187.out _ | refine IsS98.far ?_ NB0_196.out _) | exact HI0.out)) (by (with_reducible repeat (first | apply Kd.R_alloc | apply Kd.R_drewN | apply Kd.R_drew)); exact HO_197002.out) (by decide)) hk (fun _ h => h.2)) (fun _ h => h.1)); have n3_ := Aside0.mk (KeepBut.blk hk (g' := gb187) (o := .cells #[.slice none 0 0, .slice none 0 0, .slice none 0 0] 62 (0, 0)) (by (with_reducible repeat (first | refine blk_drewN ?_ _ | refine blk_drew ?_ | refine blk_alloc ?_ _)); exact BK187.out) NB187_0.out (by simp)); have n4_ := Aside0.mk (KeepBut.blk hk (g' := gb196) (o := .cells #[.slice Ao9 t188.length co9, .slice Ao8 t192.length co8, u197002] 62 (0, 0)) (by (with_reducible repeat (first | refine blk_drewN ?_ _ | refine blk_drew ?_ | refine blk_alloc ?_ _)); exact BK196.out) NB196_0.out (by simp)); have n5_ := Aside0.mk (KeepBut.trans (by repeat (first | (with_reducible first | exact HK.out | apply KeepBut.set_ | apply keep_drewN | apply keep_drew | apply keep_alloc | refine keep_far ?_ GW187.out _ | refine keep_far ?_ GW196.out _) | exact HK.out)) hk (.inl rfl)); have n6_ := Aside0.mk (hb); have n7_ := Aside0.mk (hi); clear HO_197000; clear HO_197001; clear HO_197002; clear BK187; clear BK196; clear HK; clear HB; clear HI0; have HO_197000 := n0_; have HO_197001 := n1_; have HO_197002 := n2_; have BK187 := n3_; have BK196 := n4_; have HK := n5_; have HB := n6_; have HI0 := n7_; clear n0_ n1_ n2_ n3_ n4_ n5_ n6_ n7_; (try clear hb); (try clear hb2); (try clear hk); (try clear hi); have hnb93 := NB196_187.out; have hnc93 := NB187_196.out; have hnb94 := NB196_0.out; have hnc94 := NB0_196.out; have hcz95_0 : w92.cell? ⟨gb196, 0, none⟩ = some (.slice Ao9 t188.length co9) := (blk_cell BK196.out 0).trans rfl; have hcz95_1 : w92.cell? ⟨gb196, 1, none⟩ = some (.slice Ao8 t192.length co8) := (blk_cell BK196.out 1).trans rfl; have hcz95_2 : w92.cell? ⟨gb196, 2, none⟩ = some (u197002) := (blk_cell BK196.out 2).trans rfl; have hfz95_0 := blk_frozen BK196.out 0; have hfz95_1 := blk_frozen BK196.out 1; have hfz95_2 := blk_frozen BK196.out 2; have hnb96 := NB187_0.out; have hnc96 := NB0_187.out; have hcz97_0 : w92.cell? ⟨gb187, 0, none⟩ = some (.slice none 0 0) := (blk_cell BK187.out 0).trans rfl; have hcz97_1 : w92.cell? ⟨gb187, 1, none⟩ = some (.slice none 0 0) := (blk_cell BK187.out 1).trans rfl; have hcz97_2 : w92.cell? ⟨gb187, 2, none⟩ = some (.slice none 0 0) := (blk_cell BK187.out 2).trans rfl; have hfz97_0 := blk_frozen BK187.out 0; have hfz97_1 := blk_frozen BK187.out 1; have hfz97_2 := blk_frozen BK187.out 2; obtain ⟨Ao98, co98, eo98⟩ := Kd.R_slice HO_197002.out; subst eo98))
              refine bodyPost_ret (results_cell_row rfl _ _ gb187 62 #[.slice Ao9 t188.length co9, .slice Ao8 t192.length co8, .slice Ao98 x197002_1.length co98] (0, 0) _ rfl (by (with_reducible repeat (first | refine blk_drewN ?_ _ | refine blk_drew ?_ | refine blk_alloc ?_ _)); refine blk_put (cs := #[.slice Ao9 t188.length co9, .slice Ao8 t192.length co8, .slice none 0 0]) ?_ 2 _ rfl; (with_reducible repeat (first | refine blk_drewN ?_ _ | refine blk_drew ?_ | refine blk_alloc ?_ _)); refine blk_put (cs := #[.slice Ao9 t188.length co9, .slice none 0 0, .slice none 0 0]) ?_ 1 _ rfl; (with_reducible repeat (first | refine blk_drewN ?_ _ | refine blk_drew ?_ | refine blk_alloc ?_ _)); refine blk_put (cs := #[.slice none 0 0, .slice none 0 0, .slice none 0 0]) ?_ 0 _ rfl; (with_reducible repeat (first | refine blk_drewN ?_ _ | refine blk_drew ?_ | refine blk_alloc ?_ _)); exact BK187.out) Try.underlying62 rfl (by kernel_rfl)) rfl ?_
              exact ⟨_, _, _, by first | rfl | (simp [errW_none, errW_some] <;> rfl) | (simp [*, errW_none, errW_some] <;> rfl), by (with_reducible repeat (first | apply Kd.R_alloc | apply Kd.R_drewN | apply Kd.R_drew)); exact Kd.R_mono (Kd.R_far (p := ⟨gb187, 2, none⟩) (Kd.R_far (p := ⟨gb187, 1, none⟩) (Kd.R_far (p := ⟨gb187, 0, none⟩) (Kd.R_types HO_197000.out BK187.out (by decide)) (fun _ hk => hk.2) (.slice Ao9 t188.length co9)) (fun _ hk => hk.2) (.slice Ao8 t192.length co8)) (fun _ hk => hk.2) (.slice Ao98 x197002_1.length co98)) (fun _ hk => hk.1), by (with_reducible repeat (first | apply Kd.R_alloc | apply Kd.R_drewN | apply Kd.R_drew)); exact Kd.R_mono (Kd.R_far (p := ⟨gb187, 2, none⟩) (Kd.R_far (p := ⟨gb187, 1, none⟩) (Kd.R_far (p := ⟨gb187, 0, none⟩) (Kd.R_types HO_197001.out BK187.out (by decide)) (fun _ hk => hk.2) (.slice Ao9 t188.length co9)) (fun _ hk => hk.2) (.slice Ao8 t192.length co8)) (fun _ hk => hk.2) (.slice Ao98 x197002_1.length co98)) (fun _ hk => hk.1), by (with_reducible repeat (first | apply Kd.R_alloc | apply Kd.R_drewN | apply Kd.R_drew)); exact Kd.R_mono (Kd.R_far (p := ⟨gb187, 2, none⟩) (Kd.R_far (p := ⟨gb187, 1, none⟩) (Kd.R_far (p := ⟨gb187, 0, none⟩) (Kd.R_types HO_197002.out BK187.out (by decide)) (fun _ hk => hk.2) (.slice Ao9 t188.length co9)) (fun _ hk => hk.2) (.slice Ao8 t192.length co8)) (fun _ hk => hk.2) (.slice Ao98 x197002_1.length co98)) (fun _ hk => trivial), by repeat (first | (with_reducible first | exact HI0.out | apply IsS98.alloc | apply IsS98.drewN | apply IsS98.drew | apply IsS98.set_1 | refine IsS98.far ?_ NB0_187.out _ | refine IsS98.far ?_ NB0_196.out _) | exact HI0.out), by repeat (first | (with_reducible first | exact HB.out | apply below_alloc | apply pw_below_drewN | apply below_drew1 | refine below_set ?_ (IsS98.ge HI0.out) | refine below_set ?_ GE187.out | refine below_set ?_ GE196.out) | exact HB.out), by repeat (first | (with_reducible first | exact HK.out | apply KeepBut.set_ | apply keep_drewN | apply keep_drew | apply keep_alloc | refine keep_far ?_ GW187.out _ | refine keep_far ?_ GW196.out _) | exact HK.out)⟩

end Go.Proofs.Ytnekecbhjlamoaa.PFnValidGrid
