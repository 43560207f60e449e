-- PRINTED BY print.sh 35421559b90ae4d0a3588c463048766b98c2df88dd9212a6774a882060cdf62d: not written by this session
import Derived.Test.YtkecldjkakkgoaaPFnHasPointx0
import Derived.Test.YtkecldjkakkgoaaPFnHasPointx1
namespace Go.Proofs.Ytkecldjkakkgoaa.PFnHasPoint
open Go.RowKit Go.Proofs.YtkecldjkakkgoaaW.PrintWords Go.Proofs.YtkecldjkakkgoaaW.PrintLast Go.Proofs.YtkecldjkakkgoaaW.PrintMore
attribute [local go_sem] max2_int min2_int max_two min_two max_three min_three max_four min_four   -- for this text's walks alone
set_option linter.unusedVariables false
set_option linter.unusedSimpArgs false

/-! ### spec_DrawHasPoint: function 48 -/
def spec_DrawHasPoint.f (k : Nat) (l0 : List Int) : Option (Int × Int × Int × Int × Int × Int) := (spec_newReader.f l0).bind fun bt164 => ((spec_someRect.f k bt164.1 bt164.2).bind fun bt167 => ((spec_reader_one.f k bt164.1 bt167.2.2.2.2 (([bt167.1, wrap64 (bt167.1 + bt167.2.2.1), wrap64 ((wrap64 (bt167.1 + bt167.2.2.1)) - 1), wrap64 (bt167.1 - 1), 5] : List Int))).bind fun bt176 => ((spec_reader_one.f k bt164.1 bt176.2 (([bt167.2.1, wrap64 ((wrap64 (bt167.2.1 + bt167.2.2.2.1)) - 1), wrap64 (bt167.2.1 + bt167.2.2.2.1), 5] : List Int))).bind fun bt181 => (some (bt167.1, bt167.2.1, bt167.2.2.1, bt167.2.2.2.1, bt176.1, bt181.1)))))
theorem spec_DrawHasPoint.mono : ∀ a0 k, LeO (spec_DrawHasPoint.f k a0) (spec_DrawHasPoint.f (k + 1) a0) := by
  intro a0 k
  unfold spec_DrawHasPoint.f
  repeat' first
      | (with_reducible exact spec_reader_one.mono _ _ _ _)
      | (with_reducible exact spec_someRect.mono _ _ _)
      | (with_reducible exact LeO.refl _)
      | (with_reducible exact LeO.none _)
      | (with_reducible refine LeO.ite ?_ ?_)
      | (with_reducible refine LeO.bind ?_ (fun _ => ?_))
      | exact spec_reader_one.mono _ _ _ _
      | exact spec_someRect.mono _ _ _
      | exact LeO.none _
      | refine LeO.ite ?_ ?_
      | refine LeO.bind ?_ (fun _ => ?_)
def spec_DrawHasPoint.T3 : Bool × List (List Nat × List Nat) := (true, [([], []), ([], []), ([], []), ([2], [2]), ([], []), ([4], [4]), ([], []), ([6], [6]), ([5, 7], [5, 7]), ([], []), ([9], [9]), ([], []), ([11], [11]), ([10, 12], [10, 12]), ([13], [13]), ([], []), ([15], [15]), ([16], [16]), ([3, 8, 14, 17], [3, 8, 14, 17]), ([1, 18], [1, 18]), ([], []), ([], []), ([21], [21]), ([], []), ([23], [23]), ([], []), ([25], [25]), ([24, 26], [24, 26]), ([27], [27]), ([], []), ([29], [29]), ([], []), ([31], [31]), ([30, 32], [30, 32]), ([22, 28, 33], [22, 28, 33]), ([20, 34, 19], [20, 34]), ([0, 35, 0], [0]), ([19, 36, 0, 1, 2, 3, 4, 5, 6, 7, 8, 9, 10, 11, 12, 13, 14, 15, 16, 17, 18, 19, 36], [19]), ([35, 37, 0, 1, 2, 3, 4, 5, 6, 7, 8, 9, 10, 11, 12, 13, 14, 15, 16, 17, 18, 19, 20, 21, 22, 23, 24, 25, 26, 27, 28, 29, 30, 31, 32, 33, 34, 35, 36, 37], [35])])
def spec_DrawHasPoint.B3 : List Nat := [0, 0, 0, 4, 0, 16, 0, 64, 240, 0, 512, 0, 2048, 7680, 15872, 0, 32768, 98304, 262140, 524286, 0, 0, 2097152, 0, 8388608, 0, 33554432, 125829120, 260046848, 0, 536870912, 0, 2147483648, 8053063680, 17177772032, 34359738366, 68719476735, 137438953471, 274877906943]
theorem spec_DrawHasPoint.tab3 : rtab .any (opsOf Try.f48 3) = spec_DrawHasPoint.T3 := by kernel_rfl
theorem spec_DrawHasPoint.bits3 : waitsOk spec_DrawHasPoint.T3.2 spec_DrawHasPoint.B3 = true := by kernel_rfl
set_option maxHeartbeats 8000000 in
set_option maxRecDepth 100000 in
theorem spec_DrawHasPoint.calls (k : Nat) (A0 : Option Addr) (c0 : Nat) (l0 : List Int) (r1 : Int) (r2 : Int) (r3 : Int) (r4 : Int) (r5 : Int) (r6 : Int) (w : World) (hr0 : Kd.C (Kd.int .u8) w A0 l0.length l0) (hc0 : l0.length ≤ c0) (h : spec_DrawHasPoint.f k l0 = some (r1, r2, r3, r4, r5, r6)) :
    Calls Try.prog 48 #[.slice A0 l0.length c0] w fun e w' => e = .returned (.tuple #[.agg #[.int .i64 r1, .int .i64 r2, .int .i64 r3, .int .i64 r4], .int .i64 r5, .int .i64 r6]) ∧ Below w.heap.size w w' := by
  have hu31 := Try.underlying31
  have HR0 := Aside0.mk hr0
  have HC0 := Aside0.mk hc0
  clear hr0 hc0
  have HB := Aside0.mk (Below.refl w.heap.size w)
  have H : ((spec_newReader.f l0).bind fun bt164 => ((spec_someRect.f k bt164.1 bt164.2).bind fun bt167 => ((spec_reader_one.f k bt164.1 bt167.2.2.2.2 (([bt167.1, wrap64 (bt167.1 + bt167.2.2.1), wrap64 ((wrap64 (bt167.1 + bt167.2.2.1)) - 1), wrap64 (bt167.1 - 1), 5] : List Int))).bind fun bt176 => ((spec_reader_one.f k bt164.1 bt176.2 (([bt167.2.1, wrap64 ((wrap64 (bt167.2.1 + bt167.2.2.2.1)) - 1), wrap64 (bt167.2.1 + bt167.2.2.2.1), 5] : List Int))).bind fun bt181 => (some (bt167.1, bt167.2.1, bt167.2.2.1, bt167.2.2.2.1, bt176.1, bt181.1)))))) = some (r1, r2, r3, r4, r5, r6) := h
  clear h
  replace H := Option.bind_eq_some_iff.mp H
  obtain ⟨⟨t164, t165⟩, A20, H⟩ := H
  replace H : ((spec_someRect.f k t164 t165).bind fun bt167 => ((spec_reader_one.f k t164 bt167.2.2.2.2 (([bt167.1, wrap64 (bt167.1 + bt167.2.2.1), wrap64 ((wrap64 (bt167.1 + bt167.2.2.1)) - 1), wrap64 (bt167.1 - 1), 5] : List Int))).bind fun bt176 => ((spec_reader_one.f k t164 bt176.2 (([bt167.2.1, wrap64 ((wrap64 (bt167.2.1 + bt167.2.2.2.1)) - 1), wrap64 (bt167.2.1 + bt167.2.2.2.1), 5] : List Int))).bind fun bt181 => (some (bt167.1, bt167.2.1, bt167.2.2.1, bt167.2.2.2.1, bt176.1, bt181.1))))) = some (r1, r2, r3, r4, r5, r6) := H
  have A2 := Aside0.mk A20
  clear A20
  replace H := Option.bind_eq_some_iff.mp H
  obtain ⟨⟨t167, t168, t169, t170, t171⟩, A30, H⟩ := H
  replace H : ((spec_reader_one.f k t164 t171 (([t167, wrap64 (t167 + t169), wrap64 ((wrap64 (t167 + t169)) - 1), wrap64 (t167 - 1), 5] : List Int))).bind fun bt176 => ((spec_reader_one.f k t164 bt176.2 (([t168, wrap64 ((wrap64 (t168 + t170)) - 1), wrap64 (t168 + t170), 5] : List Int))).bind fun bt181 => (some (t167, t168, t169, t170, bt176.1, bt181.1)))) = some (r1, r2, r3, r4, r5, r6) := H
  have A3 := Aside0.mk A30
  clear A30
  obtain ⟨y173, hy173⟩ : ∃ y_ : List Int, y_ = (([t167, wrap64 (t167 + t169), wrap64 ((wrap64 (t167 + t169)) - 1), wrap64 (t167 - 1), 5] : List Int)) := ⟨_, rfl⟩
  replace H : ((spec_reader_one.f k t164 t171 y173).bind fun bt176 => ((spec_reader_one.f k t164 bt176.2 (([t168, wrap64 ((wrap64 (t168 + t170)) - 1), wrap64 (t168 + t170), 5] : List Int))).bind fun bt181 => (some (t167, t168, t169, t170, bt176.1, bt181.1)))) = some (r1, r2, r3, r4, r5, r6) := by first | (rw [hy173]; with_reducible exact H) | (have H2_ := (Option.bind_some _ _).symm.trans H; rw [hy173]; with_reducible exact H2_) | (have H2_ := (Option.bind_some _ _).symm.trans H; with_reducible exact H2_) | with_reducible exact H | (rw [hy173]; exact H) | exact H
  have Ny173 := Aside0.mk hy173
  clear hy173
  replace H := Option.bind_eq_some_iff.mp H
  obtain ⟨⟨t176, t177⟩, A40, H⟩ := H
  replace H : ((spec_reader_one.f k t164 t177 (([t168, wrap64 ((wrap64 (t168 + t170)) - 1), wrap64 (t168 + t170), 5] : List Int))).bind fun bt181 => (some (t167, t168, t169, t170, t176, bt181.1))) = some (r1, r2, r3, r4, r5, r6) := H
  have A4 := Aside0.mk A40
  clear A40
  obtain ⟨y178, hy178⟩ : ∃ y_ : List Int, y_ = (([t168, wrap64 ((wrap64 (t168 + t170)) - 1), wrap64 (t168 + t170), 5] : List Int)) := ⟨_, rfl⟩
  replace H : ((spec_reader_one.f k t164 t177 y178).bind fun bt181 => (some (t167, t168, t169, t170, t176, bt181.1))) = some (r1, r2, r3, r4, r5, r6) := by first | (rw [hy178]; with_reducible exact H) | (have H2_ := (Option.bind_some _ _).symm.trans H; rw [hy178]; with_reducible exact H2_) | (have H2_ := (Option.bind_some _ _).symm.trans H; with_reducible exact H2_) | with_reducible exact H | (rw [hy178]; exact H) | exact H
  have Ny178 := Aside0.mk hy178
  clear hy178
  replace H := Option.bind_eq_some_iff.mp H
  obtain ⟨⟨t181, t182⟩, A50, H⟩ := H
  replace H : (some (t167, t168, t169, t170, t176, t181)) = some (r1, r2, r3, r4, r5, r6) := H
  have A5 := Aside0.mk A50
  clear A50
  simp only [Option.some.injEq, Prod.mk.injEq] at H
  obtain ⟨rfl, rfl, rfl, rfl, rfl, rfl⟩ := H
  go_enter Try.func48, Try.ntmps48
  try go_wp2_with (first | ((with_reducible refine gate_dst (N := 2) rfl ?_); refine box_event ?hg (N := 2) ?hd (cs := #[.int .i64 0, .int .i64 0, .int .i64 0, .int .i64 0]) (t := 31) ?hr ?_; (case hd => rfl); (case hg => rfl); (case hr => first | (go_simp; done) | (go_simp; rfl)); intro gb163 hg w6 hbox hb; have n0_ := Aside0.mk (below_step (by repeat (first | (with_reducible first | exact HB.out | apply below_alloc | apply pw_below_drewN | apply below_drew1) | exact HB.out)) hb); have n1_ := Aside0.mk (hbox); have n2_ := Aside0.mk ((by rw [hg]; exact (below_size (by repeat (first | (with_reducible first | exact HB.out | apply below_alloc | apply pw_below_drewN | apply below_drew1) | exact HB.out))) : w.heap.size ≤ gb163)); have n3_ := Aside0.mk ((by rw [hg]; exact (below_size (by repeat (first | (with_reducible first | exact HB.out | apply below_alloc | apply pw_below_drewN | apply below_drew1) | exact HB.out))) : w.heap.size ≤ gb163)); clear HB; have HB := n0_; have BK163 := n1_; have GW163 := n2_; have GE163 := n3_; clear n0_ n1_ n2_ n3_; clear hb hbox hg) | ((with_reducible refine gate_callee (f := 76) rfl ?_); refine goesL_ (some 8) rfl rfl Try.func76 (by kernel_rfl) rfl #[.slice A0 l0.length c0] rfl (by (try simp only [List.map_toArray, List.map_cons, List.map_nil]); first | done | rfl | (simp only [List.length_drop, List.length_take]; rfl)) ?_; (with_reducible refine (spec_newReader.calls _ _ l0 t164 t165 w _ ?side1 ?side2 ?side3 A2.out).mono ?_); (case side1 => repeat (first | (with_reducible first | exact HB.out | apply below_alloc | apply pw_below_drewN | apply below_drew1 | refine below_set ?_ GE163.out) | exact HB.out)); (case side2 => exact HR0.out); (case side3 => exact HC0.out); rintro e w7 ⟨g166, rfl, hi, hb, hb2⟩; refine ⟨_, rfl, ?_⟩; have n0_ := Aside0.mk (blk_below (g := gb163) (o := .cells #[.int .i64 0, .int .i64 0, .int .i64 0, .int .i64 0] 31 (0, 0)) (by (with_reducible repeat (first | refine blk_drewN ?_ _ | refine blk_drew ?_ | refine blk_alloc ?_ _)); exact BK163.out) hb2); have n1_ := Aside0.mk (hb); have n2_ := Aside0.mk (hi); have n3_ := Aside0.mk (IsS91.ne_blk hi (blk_below (g := gb163) (o := .cells #[.int .i64 0, .int .i64 0, .int .i64 0, .int .i64 0] 31 (0, 0)) (by (with_reducible repeat (first | refine blk_drewN ?_ _ | refine blk_drew ?_ | refine blk_alloc ?_ _)); exact BK163.out) hb2) (by decide)); have n4_ := Aside0.mk (Ne.symm (IsS91.ne_blk hi (blk_below (g := gb163) (o := .cells #[.int .i64 0, .int .i64 0, .int .i64 0, .int .i64 0] 31 (0, 0)) (by (with_reducible repeat (first | refine blk_drewN ?_ _ | refine blk_drew ?_ | refine blk_alloc ?_ _)); exact BK163.out) hb2) (by decide))); clear BK163; clear HB; have BK163 := n0_; have HB := n1_; have HI166 := n2_; have NB166_163 := n3_; have NB163_166 := n4_; clear n0_ n1_ n2_ n3_ n4_; (try clear hb); (try clear hb2); (try clear hk); (try clear hi)) | ((with_reducible refine gate_callee (f := 82) rfl ?_); refine goesL_ (some 10) rfl rfl Try.func82 (by kernel_rfl) rfl #[.pointer (some ⟨g166, 0, none⟩)] rfl (by (try simp only [List.map_toArray, List.map_cons, List.map_nil]); first | done | rfl | (simp only [List.length_drop, List.length_take]; rfl)) ?_; (with_reducible refine (spec_someRect.calls k g166 t164 t165 t167 t168 t169 t170 t171 w _ ?side1 ?side2 A3.out).mono ?_); (case side1 => repeat (first | (with_reducible first | exact HI166.out | apply IsS91.alloc | apply IsS91.drewN | apply IsS91.drew | apply IsS91.set_1 | refine IsS91.far ?_ NB166_163.out _) | exact HI166.out)); (case side2 => repeat (first | (with_reducible first | exact HB.out | apply below_alloc | apply pw_below_drewN | apply below_drew1 | refine below_set ?_ (IsS91.ge HI166.out) | refine below_set ?_ GE163.out) | exact HB.out)); rintro e w8 ⟨rfl, hi, hb, hk⟩; refine ⟨_, rfl, ?_⟩; have n0_ := Aside0.mk (KeepBut.blk hk (g' := gb163) (o := .cells #[.int .i64 0, .int .i64 0, .int .i64 0, .int .i64 0] 31 (0, 0)) (by (with_reducible repeat (first | refine blk_drewN ?_ _ | refine blk_drew ?_ | refine blk_alloc ?_ _)); exact BK163.out) NB163_166.out (by simp)); have n1_ := Aside0.mk (hb); have n2_ := Aside0.mk (hi); clear BK163; clear HB; clear HI166; have BK163 := n0_; have HB := n1_; have HI166 := n2_; clear n0_ n1_ n2_; (try clear hb); (try clear hb2); (try clear hk); (try clear hi)) | ((with_reducible refine gate_dst (N := 6) rfl ?_); refine box_event ?hg (N := 6) ?hd (cs := #[.int .i64 0, .int .i64 0, .int .i64 0, .int .i64 0]) (t := 31) ?hr ?_; (case hd => rfl); (case hg => rfl); (case hr => first | (go_simp; done) | (go_simp; rfl)); intro gb172 hg w9 hbox hb; have n0_ := Aside0.mk (blk_below (g := gb163) (o := .cells #[.int .i64 0, .int .i64 0, .int .i64 0, .int .i64 0] 31 (0, 0)) (by (with_reducible repeat (first | refine blk_drewN ?_ _ | refine blk_drew ?_ | refine blk_alloc ?_ _)); exact BK163.out) hb); have n1_ := Aside0.mk (IsS91.below (by repeat (first | (with_reducible first | exact HI166.out | apply IsS91.alloc | apply IsS91.drewN | apply IsS91.drew | apply IsS91.set_1 | refine IsS91.far ?_ NB166_163.out _) | exact HI166.out)) hb); have n2_ := Aside0.mk (below_step (by repeat (first | (with_reducible first | exact HB.out | apply below_alloc | apply pw_below_drewN | apply below_drew1 | refine below_set ?_ (IsS91.ge HI166.out) | refine below_set ?_ GE163.out) | exact HB.out)) hb); have n3_ := Aside0.mk (hbox); have n4_ := Aside0.mk ((by rw [hg]; exact (below_size (by repeat (first | (with_reducible first | exact HB.out | apply below_alloc | apply pw_below_drewN | apply below_drew1 | refine below_set ?_ (IsS91.ge HI166.out) | refine below_set ?_ GE163.out) | exact HB.out))) : w.heap.size ≤ gb172)); have n5_ := Aside0.mk ((by rw [hg]; exact (below_size (by repeat (first | (with_reducible first | exact HB.out | apply below_alloc | apply pw_below_drewN | apply below_drew1 | refine below_set ?_ (IsS91.ge HI166.out) | refine below_set ?_ GE163.out) | exact HB.out))) : w.heap.size ≤ gb172)); have n6_ := Aside0.mk ((by rw [hg]; exact Nat.ne_of_lt (blk_lt (g := gb163) (o := .cells #[.int .i64 0, .int .i64 0, .int .i64 0, .int .i64 0] 31 (0, 0)) (by (with_reducible repeat (first | refine blk_drewN ?_ _ | refine blk_drew ?_ | refine blk_alloc ?_ _)); exact BK163.out)) : gb163 ≠ gb172)); have n7_ := Aside0.mk ((by rw [hg]; exact Nat.ne_of_gt (blk_lt (g := gb163) (o := .cells #[.int .i64 0, .int .i64 0, .int .i64 0, .int .i64 0] 31 (0, 0)) (by (with_reducible repeat (first | refine blk_drewN ?_ _ | refine blk_drew ?_ | refine blk_alloc ?_ _)); exact BK163.out)) : gb172 ≠ gb163)); have n8_ := Aside0.mk ((by rw [hg]; exact Nat.ne_of_lt (IsS91.lt (show IsS91 w _ g166 t164 t171 from by repeat (first | (with_reducible first | exact HI166.out | apply IsS91.alloc | apply IsS91.drewN | apply IsS91.drew | apply IsS91.set_1 | refine IsS91.far ?_ NB166_163.out _) | exact HI166.out))) : g166 ≠ gb172)); have n9_ := Aside0.mk ((by rw [hg]; exact Nat.ne_of_gt (IsS91.lt (show IsS91 w _ g166 t164 t171 from by repeat (first | (with_reducible first | exact HI166.out | apply IsS91.alloc | apply IsS91.drewN | apply IsS91.drew | apply IsS91.set_1 | refine IsS91.far ?_ NB166_163.out _) | exact HI166.out))) : gb172 ≠ g166)); clear BK163; clear HI166; clear HB; have BK163 := n0_; have HI166 := n1_; have HB := n2_; have BK172 := n3_; have GW172 := n4_; have GE172 := n5_; have NB163_172 := n6_; have NB172_163 := n7_; have NB166_172 := n8_; have NB172_166 := n9_; clear n0_ n1_ n2_ n3_ n4_ n5_ n6_ n7_ n8_ n9_; clear hb hbox hg; have hnb10 := NB172_163.out; have hnc10 := NB163_172.out; have hnb11 := NB172_166.out; have hnc11 := NB166_172.out; have hcz12_0 : w9.cell? ⟨gb172, 0, none⟩ = some (.int .i64 0) := (blk_cell BK172.out 0).trans rfl; have hcz12_1 : w9.cell? ⟨gb172, 1, none⟩ = some (.int .i64 0) := (blk_cell BK172.out 1).trans rfl; have hcz12_2 : w9.cell? ⟨gb172, 2, none⟩ = some (.int .i64 0) := (blk_cell BK172.out 2).trans rfl; have hcz12_3 : w9.cell? ⟨gb172, 3, none⟩ = some (.int .i64 0) := (blk_cell BK172.out 3).trans rfl; have hfz12_0 := blk_frozen BK172.out 0; have hfz12_1 := blk_frozen BK172.out 1; have hfz12_2 := blk_frozen BK172.out 2; have hfz12_3 := blk_frozen BK172.out 3))
  have n0_ : Aside0 (((((w9.setCell ⟨gb172, 0, none⟩ (.int .i64 t167)).setCell ⟨gb172, 1, none⟩ (.int .i64 t168)).setCell ⟨gb172, 2, none⟩ (.int .i64 t169)).setCell ⟨gb172, 3, none⟩ (.int .i64 t170)).heap[gb163]? = some (.cells #[.int .i64 0, .int .i64 0, .int .i64 0, .int .i64 0] 31 (0, 0))) := ⟨by (with_reducible repeat (first | refine blk_drewN ?_ _ | refine blk_drew ?_ | refine blk_alloc ?_ _)); refine blk_far ?_ NB163_172.out _; (with_reducible repeat (first | refine blk_drewN ?_ _ | refine blk_drew ?_ | refine blk_alloc ?_ _)); refine blk_far ?_ NB163_172.out _; (with_reducible repeat (first | refine blk_drewN ?_ _ | refine blk_drew ?_ | refine blk_alloc ?_ _)); refine blk_far ?_ NB163_172.out _; (with_reducible repeat (first | refine blk_drewN ?_ _ | refine blk_drew ?_ | refine blk_alloc ?_ _)); refine blk_far ?_ NB163_172.out _; (with_reducible repeat (first | refine blk_drewN ?_ _ | refine blk_drew ?_ | refine blk_alloc ?_ _)); exact BK163.out⟩
  have n1_ : Aside0 (((((w9.setCell ⟨gb172, 0, none⟩ (.int .i64 t167)).setCell ⟨gb172, 1, none⟩ (.int .i64 t168)).setCell ⟨gb172, 2, none⟩ (.int .i64 t169)).setCell ⟨gb172, 3, none⟩ (.int .i64 t170)).heap[gb172]? = some (.cells #[.int .i64 t167, .int .i64 t168, .int .i64 t169, .int .i64 t170] 31 (0, 0))) := ⟨by (with_reducible repeat (first | refine blk_drewN ?_ _ | refine blk_drew ?_ | refine blk_alloc ?_ _)); refine blk_put (cs := #[.int .i64 t167, .int .i64 t168, .int .i64 t169, .int .i64 0]) ?_ 3 _ rfl; (with_reducible repeat (first | refine blk_drewN ?_ _ | refine blk_drew ?_ | refine blk_alloc ?_ _)); refine blk_put (cs := #[.int .i64 t167, .int .i64 t168, .int .i64 0, .int .i64 0]) ?_ 2 _ rfl; (with_reducible repeat (first | refine blk_drewN ?_ _ | refine blk_drew ?_ | refine blk_alloc ?_ _)); refine blk_put (cs := #[.int .i64 t167, .int .i64 0, .int .i64 0, .int .i64 0]) ?_ 1 _ rfl; (with_reducible repeat (first | refine blk_drewN ?_ _ | refine blk_drew ?_ | refine blk_alloc ?_ _)); refine blk_put (cs := #[.int .i64 0, .int .i64 0, .int .i64 0, .int .i64 0]) ?_ 0 _ rfl; (with_reducible repeat (first | refine blk_drewN ?_ _ | refine blk_drew ?_ | refine blk_alloc ?_ _)); exact BK172.out⟩
  have n2_ : Aside0 (IsS91 w ((((w9.setCell ⟨gb172, 0, none⟩ (.int .i64 t167)).setCell ⟨gb172, 1, none⟩ (.int .i64 t168)).setCell ⟨gb172, 2, none⟩ (.int .i64 t169)).setCell ⟨gb172, 3, none⟩ (.int .i64 t170)) g166 t164 t171) := ⟨by repeat (first | (with_reducible first | exact HI166.out | apply IsS91.alloc | apply IsS91.drewN | apply IsS91.drew | apply IsS91.set_1 | refine IsS91.far ?_ NB166_163.out _ | refine IsS91.far ?_ NB166_172.out _) | exact HI166.out)⟩
  have n3_ : Aside0 (Below w.heap.size w ((((w9.setCell ⟨gb172, 0, none⟩ (.int .i64 t167)).setCell ⟨gb172, 1, none⟩ (.int .i64 t168)).setCell ⟨gb172, 2, none⟩ (.int .i64 t169)).setCell ⟨gb172, 3, none⟩ (.int .i64 t170))) := ⟨by repeat (first | (with_reducible first | exact HB.out | apply below_alloc | apply pw_below_drewN | apply below_drew1 | refine below_set ?_ (IsS91.ge HI166.out) | refine below_set ?_ GE163.out | refine below_set ?_ GE172.out) | exact HB.out)⟩
  (try clear BK163)
  (try clear BK172)
  (try clear HI166)
  (try clear HB)
  generalize ((((w9.setCell ⟨gb172, 0, none⟩ (.int .i64 t167)).setCell ⟨gb172, 1, none⟩ (.int .i64 t168)).setCell ⟨gb172, 2, none⟩ (.int .i64 t169)).setCell ⟨gb172, 3, none⟩ (.int .i64 t170)) = w13 at n0_ n1_ n2_ n3_ ⊢
  have BK163 := n0_
  have BK172 := n1_
  have HI166 := n2_
  have HB := n3_
  clear n0_ n1_ n2_ n3_
  have n0_ := Aside0.mk (blk_drew BK163.out)
  have n1_ := Aside0.mk (blk_drew BK172.out)
  have n2_ := Aside0.mk (IsS91.drew HI166.out)
  have n3_ := Aside0.mk (below_drew1 HB.out)
  clear BK163
  clear BK172
  clear HI166
  clear HB
  have BK163 := n0_
  have BK172 := n1_
  have HI166 := n2_
  have HB := n3_
  clear n0_ n1_ n2_ n3_
  refine start_ (n := 39) (S := fun w' => True) (ds := []) #[false, false, false, false, false, false, false, false, false, false, false, false, false, false, false, false, false, false, false, false, false, false, false, false, false, false, false, false, false, false, false, false, false, false, false, false, false, false, false] (by kernel_rfl) rfl rfl trivial (fun hHeld => ?_); refine with_tabW spec_DrawHasPoint.tab3 spec_DrawHasPoint.bits3 (fun HT_ HW_ => ?_)
  generalize w13.drew = w14 at BK163 BK172 HI166 HB hHeld ⊢
  refine pure_ (i := 1) (N := some 12) (v := ?_) (a' := ?_) #[false, true, false, false, false, false, false, false, false, false, false, false, false, false, false, false, false, false, false, false, false, false, false, false, false, false, false, false, false, false, false, false, false, false, false, false, false, false, false] rfl rfl (any_of HT_.out (by kernel_rfl)) (fun _ _ _ h => h) (Or.inl ⟨by rfl, ?_⟩) ?_ ?_
  rotate_left
  · intro w'
    go_simp
    with_reducible rfl
  rotate_left
  · simp only [Act.put, List.setIfInBounds_toArray, List.set_cons_zero, List.set_cons_succ, i64_w, i32_w]
    rfl
  refine pure_ (i := 2) (N := some 13) (v := ?_) (a' := ?_) #[false, true, true, false, false, false, false, false, false, false, false, false, false, false, false, false, false, false, false, false, false, false, false, false, false, false, false, false, false, false, false, false, false, false, false, false, false, false, false] rfl rfl (any_of HT_.out (by kernel_rfl)) (fun _ _ _ h => h) (Or.inl ⟨by rfl, ?_⟩) ?_ ?_
  rotate_left
  · intro w'
    go_simp
    with_reducible rfl
  rotate_left
  · simp only [Act.put, List.setIfInBounds_toArray, List.set_cons_zero, List.set_cons_succ, i64_w, i32_w]
    rfl
  refine pure_ (i := 4) (N := some 15) (v := ?_) (a' := ?_) #[false, true, true, false, true, false, false, false, false, false, false, false, false, false, false, false, false, false, false, false, false, false, false, false, false, false, false, false, false, false, false, false, false, false, false, false, false, false, false] rfl rfl (any_of HT_.out (by kernel_rfl)) (fun _ _ _ h => h) (Or.inl ⟨by rfl, ?_⟩) ?_ ?_
  rotate_left
  · intro w'
    go_simp
    with_reducible rfl
  rotate_left
  · simp only [Act.put, List.setIfInBounds_toArray, List.set_cons_zero, List.set_cons_succ, i64_w, i32_w]
    rfl
  refine pure_ (i := 6) (N := some 17) (v := ?_) (a' := ?_) #[false, true, true, false, true, false, true, false, false, false, false, false, false, false, false, false, false, false, false, false, false, false, false, false, false, false, false, false, false, false, false, false, false, false, false, false, false, false, false] rfl rfl (any_of HT_.out (by kernel_rfl)) (fun _ _ _ h => h) (Or.inl ⟨by rfl, ?_⟩) ?_ ?_
  rotate_left
  · intro w'
    go_simp
    with_reducible rfl
  rotate_left
  · simp only [Act.put, List.setIfInBounds_toArray, List.set_cons_zero, List.set_cons_succ, i64_w, i32_w]
    rfl
  refine pure_ (i := 9) (N := some 20) (v := ?_) (a' := ?_) #[false, true, true, false, true, false, true, false, false, true, false, false, false, false, false, false, false, false, false, false, false, false, false, false, false, false, false, false, false, false, false, false, false, false, false, false, false, false, false] rfl rfl (any_of HT_.out (by kernel_rfl)) (fun _ _ _ h => h) (Or.inl ⟨by rfl, ?_⟩) ?_ ?_
  rotate_left
  · intro w'
    go_simp
    with_reducible rfl
  rotate_left
  · simp only [Act.put, List.setIfInBounds_toArray, List.set_cons_zero, List.set_cons_succ, i64_w, i32_w]
    rfl
  refine pure_ (i := 11) (N := some 22) (v := ?_) (a' := ?_) #[false, true, true, false, true, false, true, false, false, true, false, true, false, false, false, false, false, false, false, false, false, false, false, false, false, false, false, false, false, false, false, false, false, false, false, false, false, false, false] rfl rfl (any_of HT_.out (by kernel_rfl)) (fun _ _ _ h => h) (Or.inl ⟨by rfl, ?_⟩) ?_ ?_
  rotate_left
  · intro w'
    go_simp
    with_reducible rfl
  rotate_left
  · simp only [Act.put, List.setIfInBounds_toArray, List.set_cons_zero, List.set_cons_succ, i64_w, i32_w]
    rfl
  refine pure_ (i := 15) (N := some 26) (v := ?_) (a' := ?_) #[false, true, true, false, true, false, true, false, false, true, false, true, false, false, false, true, false, false, false, false, false, false, false, false, false, false, false, false, false, false, false, false, false, false, false, false, false, false, false] rfl rfl (any_of HT_.out (by kernel_rfl)) (fun _ _ _ h => h) (Or.inl ⟨by rfl, ?_⟩) ?_ ?_
  rotate_left
  · intro w'
    go_simp
    with_reducible rfl
  rotate_left
  · simp only [Act.put, List.setIfInBounds_toArray, List.set_cons_zero, List.set_cons_succ, i64_w, i32_w]
    rfl
  refine pure_ (i := 20) (N := some 31) (v := ?_) (a' := ?_) #[false, true, true, false, true, false, true, false, false, true, false, true, false, false, false, true, false, false, false, false, true, false, false, false, false, false, false, false, false, false, false, false, false, false, false, false, false, false, false] rfl rfl (any_of HT_.out (by kernel_rfl)) (fun _ _ _ h => h) (Or.inl ⟨by rfl, ?_⟩) ?_ ?_
  rotate_left
  · intro w'
    go_simp
    with_reducible rfl
  rotate_left
  · simp only [Act.put, List.setIfInBounds_toArray, List.set_cons_zero, List.set_cons_succ, i64_w, i32_w]
    rfl
  refine pure_ (i := 21) (N := some 32) (v := ?_) (a' := ?_) #[false, true, true, false, true, false, true, false, false, true, false, true, false, false, false, true, false, false, false, false, true, true, false, false, false, false, false, false, false, false, false, false, false, false, false, false, false, false, false] rfl rfl (any_of HT_.out (by kernel_rfl)) (fun _ _ _ h => h) (Or.inl ⟨by rfl, ?_⟩) ?_ ?_
  rotate_left
  · intro w'
    go_simp
    with_reducible rfl
  rotate_left
  · simp only [Act.put, List.setIfInBounds_toArray, List.set_cons_zero, List.set_cons_succ, i64_w, i32_w]
    rfl
  refine pure_ (i := 23) (N := some 34) (v := ?_) (a' := ?_) #[false, true, true, false, true, false, true, false, false, true, false, true, false, false, false, true, false, false, false, false, true, true, false, true, false, false, false, false, false, false, false, false, false, false, false, false, false, false, false] rfl rfl (any_of HT_.out (by kernel_rfl)) (fun _ _ _ h => h) (Or.inl ⟨by rfl, ?_⟩) ?_ ?_
  rotate_left
  · intro w'
    go_simp
    with_reducible rfl
  rotate_left
  · simp only [Act.put, List.setIfInBounds_toArray, List.set_cons_zero, List.set_cons_succ, i64_w, i32_w]
    rfl
  refine pure_ (i := 25) (N := some 36) (v := ?_) (a' := ?_) #[false, true, true, false, true, false, true, false, false, true, false, true, false, false, false, true, false, false, false, false, true, true, false, true, false, true, false, false, false, false, false, false, false, false, false, false, false, false, false] rfl rfl (any_of HT_.out (by kernel_rfl)) (fun _ _ _ h => h) (Or.inl ⟨by rfl, ?_⟩) ?_ ?_
  rotate_left
  · intro w'
    go_simp
    with_reducible rfl
  rotate_left
  · simp only [Act.put, List.setIfInBounds_toArray, List.set_cons_zero, List.set_cons_succ, i64_w, i32_w]
    rfl
  refine pure_ (i := 29) (N := some 40) (v := ?_) (a' := ?_) #[false, true, true, false, true, false, true, false, false, true, false, true, false, false, false, true, false, false, false, false, true, true, false, true, false, true, false, false, false, true, false, false, false, false, false, false, false, false, false] rfl rfl (any_of HT_.out (by kernel_rfl)) (fun _ _ _ h => h) (Or.inl ⟨by rfl, ?_⟩) ?_ ?_
  rotate_left
  · intro w'
    go_simp
    with_reducible rfl
  rotate_left
  · simp only [Act.put, List.setIfInBounds_toArray, List.set_cons_zero, List.set_cons_succ, i64_w, i32_w]
    rfl
  refine pure_ (i := 31) (N := some 42) (v := ?_) (a' := ?_) #[false, true, true, false, true, false, true, false, false, true, false, true, false, false, false, true, false, false, false, false, true, true, false, true, false, true, false, false, false, true, false, true, false, false, false, false, false, false, false] rfl rfl (any_of HT_.out (by kernel_rfl)) (fun _ _ _ h => h) (Or.inl ⟨by rfl, ?_⟩) ?_ ?_
  rotate_left
  · intro w'
    go_simp
    with_reducible rfl
  rotate_left
  · simp only [Act.put, List.setIfInBounds_toArray, List.set_cons_zero, List.set_cons_succ, i64_w, i32_w]
    rfl
  refine inv_at [0, 3, 5, 7, 8, 10, 12, 13, 14, 16, 17, 18, 19, 22, 24, 26, 27, 28, 30, 32, 33, 34, 35, 36, 37, 38] (fun a0_ b a w' => ∃ (v174 : Value) (v179 : Value), a = putSel a0_ b [(0, 11, .agg #[.int .i64 t167, .int .i64 t168, .int .i64 t169, .int .i64 t170]), (3, 14, .int .i64 t167), (5, 16, .int .i64 t167), (7, 18, .int .i64 t169), (8, 19, .int .i64 (wrap64 (t167 + t169))), (10, 21, .int .i64 t167), (12, 23, .int .i64 t169), (13, 24, .int .i64 (wrap64 (t167 + t169))), (14, 25, .int .i64 (wrap64 ((wrap64 (t167 + t169)) - 1))), (16, 27, .int .i64 t167), (17, 28, .int .i64 (wrap64 (t167 - 1))), (18, 29, v174), (19, 30, .int .i64 t176), (22, 33, .int .i64 t168), (24, 35, .int .i64 t168), (26, 37, .int .i64 t170), (27, 38, .int .i64 (wrap64 (t168 + t170))), (28, 39, .int .i64 (wrap64 ((wrap64 (t168 + t170)) - 1))), (30, 41, .int .i64 t168), (32, 43, .int .i64 t170), (33, 44, .int .i64 (wrap64 (t168 + t170))), (34, 45, v179), (35, 46, .int .i64 t181), (37, 3, .int .i64 t176), (38, 4, .int .i64 t181)] ∧ (b 36 = false → w'.heap[gb163]? = some (.cells #[.int .i64 0, .int .i64 0, .int .i64 0, .int .i64 0] 31 (0, 0))) ∧ (w'.heap[gb172]? = some (.cells #[.int .i64 t167, .int .i64 t168, .int .i64 t169, .int .i64 t170] 31 (0, 0))) ∧ (b 19 = false → IsS91 w w' g166 t164 t171) ∧ (Below w.heap.size w w') ∧ (b 18 = true → Kd.R (Kd.int .i64) 3 w' w.heap.size (fun _ => True) v174 y173) ∧ (b 19 = true → b 35 = false → IsS91 w w' g166 t164 t177) ∧ (b 34 = true → Kd.R (Kd.int .i64) 3 w' w.heap.size (fun _ => True) v179 y178) ∧ (b 35 = true → IsS91 w w' g166 t164 t182) ∧ (b 36 = true → w'.heap[gb163]? = some (.cells #[.int .i64 t167, .int .i64 t168, .int .i64 t169, .int .i64 t170] 31 (0, 0)))) HT_.out HW_.out (by kernel_rfl) (by kernel_rfl) ?_ ?_ ?_
  · exact ⟨.bool false, .bool false, by simp only [putSel, Bool.false_eq_true, if_false], fun _ => BK163.out, BK172.out, fun _ => HI166.out, HB.out, fun h_ => absurd h_ (by decide), fun h_ => absurd h_ (by decide), fun h_ => absurd h_ (by decide), fun h_ => absurd h_ (by decide), fun h_ => absurd h_ (by decide)⟩
  · skip
    clear BK163 BK172 HB HI166
    refine steps_cons ?_ ?_
    · rintro b a w' ⟨v174, v179, ha, Q_BK163, Q_BK172, Q_HI166, Q_HB, Q_HO175, Q_HI166_e19, Q_HO180, Q_HI166_e35, Q_BK163_e36⟩ hb_ hon hoff
      refine ⟨_, rfl, fun K hK => ?_⟩
      have e6 : a.tmps[6]? = some (.pointer (some ⟨gb172, 0, none⟩)) := by rw [ha]; exact (putSel_off rfl).trans rfl
      replace ha := Aside0.mk ha
      have BK163 := Aside0.mk (Q_BK163 (hoff 36 (by kernel_rfl)))
      have BK172 := Aside0.mk Q_BK172
      have HB := Aside0.mk Q_HB
      have hc0_ : w'.cell? ⟨gb172, 0, none⟩ = some (.int .i64 t167) := (blk_cell BK172.out 0).trans rfl
      have hc1_ : w'.cell? ⟨gb172, 1, none⟩ = some (.int .i64 t168) := (blk_cell BK172.out 1).trans rfl
      have hc2_ : w'.cell? ⟨gb172, 2, none⟩ = some (.int .i64 t169) := (blk_cell BK172.out 2).trans rfl
      have hc3_ : w'.cell? ⟨gb172, 3, none⟩ = some (.int .i64 t170) := (blk_cell BK172.out 3).trans rfl
      refine value_ (w1 := w') (v := .agg #[.int .i64 t167, .int .i64 t168, .int .i64 t169, .int .i64 t170]) (by rfl) rfl ?_ ?_
      · go_simp
        (try simp only [i64_w])
        try rfl
      refine hK.out _ _ ⟨v174, v179, (by rw [ha.out]; exact putSel_upk 0 hb_ rfl rfl rfl), Q_BK163, Q_BK172, Q_HI166, Q_HB, Q_HO175, Q_HI166_e19, Q_HO180, Q_HI166_e35, fun h0_ => absurd ((hoff 36 (by kernel_rfl)).symm.trans h0_) (by decide)⟩
    refine steps_cons ?_ ?_
    · rintro b a w' ⟨v174, v179, ha, Q_BK163, Q_BK172, Q_HI166, Q_HB, Q_HO175, Q_HI166_e19, Q_HO180, Q_HI166_e35, Q_BK163_e36⟩ hb_ hon hoff
      refine ⟨_, rfl, fun K hK => ?_⟩
      have e13 : a.tmps[13]? = some (.pointer (some ⟨gb172, 0, none⟩)) := by rw [ha]; exact (putSel_off rfl).trans rfl
      replace ha := Aside0.mk ha
      have BK163 := Aside0.mk (Q_BK163 (hoff 36 (by kernel_rfl)))
      have BK172 := Aside0.mk Q_BK172
      have HI166 := Aside0.mk (Q_HI166 (hoff 19 (by kernel_rfl)))
      have HB := Aside0.mk Q_HB
      have hc0_ : w'.cell? ⟨gb172, 0, none⟩ = some (.int .i64 t167) := (blk_cell BK172.out 0).trans rfl
      have hc1_ : w'.cell? ⟨gb172, 1, none⟩ = some (.int .i64 t168) := (blk_cell BK172.out 1).trans rfl
      have hc2_ : w'.cell? ⟨gb172, 2, none⟩ = some (.int .i64 t169) := (blk_cell BK172.out 2).trans rfl
      have hc3_ : w'.cell? ⟨gb172, 3, none⟩ = some (.int .i64 t170) := (blk_cell BK172.out 3).trans rfl
      refine value_ (w1 := w') (v := .int .i64 t167) (by rfl) rfl ?_ ?_
      · go_simp
        (try simp only [i64_w])
        try rfl
      refine hK.out _ _ ⟨v174, v179, (by rw [ha.out]; exact putSel_upk 1 hb_ rfl rfl rfl), Q_BK163, Q_BK172, Q_HI166, Q_HB, fun h0_ => absurd ((hoff 18 (by kernel_rfl)).symm.trans h0_) (by decide), fun h0_ _ => absurd ((hoff 19 (by kernel_rfl)).symm.trans h0_) (by decide), Q_HO180, fun h0_ => absurd ((hoff 35 (by kernel_rfl)).symm.trans h0_) (by decide), fun h0_ => absurd ((hoff 36 (by kernel_rfl)).symm.trans h0_) (by decide)⟩
    refine steps_cons ?_ ?_
    · rintro b a w' ⟨v174, v179, ha, Q_BK163, Q_BK172, Q_HI166, Q_HB, Q_HO175, Q_HI166_e19, Q_HO180, Q_HI166_e35, Q_BK163_e36⟩ hb_ hon hoff
      refine ⟨_, rfl, fun K hK => ?_⟩
      have e15 : a.tmps[15]? = some (.pointer (some ⟨gb172, 0, none⟩)) := by rw [ha]; exact (putSel_off rfl).trans rfl
      replace ha := Aside0.mk ha
      have BK163 := Aside0.mk (Q_BK163 (hoff 36 (by kernel_rfl)))
      have BK172 := Aside0.mk Q_BK172
      have HI166 := Aside0.mk (Q_HI166 (hoff 19 (by kernel_rfl)))
      have HB := Aside0.mk Q_HB
      have hc0_ : w'.cell? ⟨gb172, 0, none⟩ = some (.int .i64 t167) := (blk_cell BK172.out 0).trans rfl
      have hc1_ : w'.cell? ⟨gb172, 1, none⟩ = some (.int .i64 t168) := (blk_cell BK172.out 1).trans rfl
      have hc2_ : w'.cell? ⟨gb172, 2, none⟩ = some (.int .i64 t169) := (blk_cell BK172.out 2).trans rfl
      have hc3_ : w'.cell? ⟨gb172, 3, none⟩ = some (.int .i64 t170) := (blk_cell BK172.out 3).trans rfl
      refine value_ (w1 := w') (v := .int .i64 t167) (by rfl) rfl ?_ ?_
      · go_simp
        (try simp only [i64_w])
        try rfl
      refine hK.out _ _ ⟨v174, v179, (by rw [ha.out]; exact putSel_upk 2 hb_ rfl rfl rfl), Q_BK163, Q_BK172, Q_HI166, Q_HB, fun h0_ => absurd ((hoff 18 (by kernel_rfl)).symm.trans h0_) (by decide), fun h0_ _ => absurd ((hoff 19 (by kernel_rfl)).symm.trans h0_) (by decide), Q_HO180, fun h0_ => absurd ((hoff 35 (by kernel_rfl)).symm.trans h0_) (by decide), fun h0_ => absurd ((hoff 36 (by kernel_rfl)).symm.trans h0_) (by decide)⟩
    refine steps_cons ?_ ?_
    · rintro b a w' ⟨v174, v179, ha, Q_BK163, Q_BK172, Q_HI166, Q_HB, Q_HO175, Q_HI166_e19, Q_HO180, Q_HI166_e35, Q_BK163_e36⟩ hb_ hon hoff
      refine ⟨_, rfl, fun K hK => ?_⟩
      have e17 : a.tmps[17]? = some (.pointer (some ⟨gb172, 2, none⟩)) := by rw [ha]; exact (putSel_off rfl).trans rfl
      replace ha := Aside0.mk ha
      have BK163 := Aside0.mk (Q_BK163 (hoff 36 (by kernel_rfl)))
      have BK172 := Aside0.mk Q_BK172
      have HI166 := Aside0.mk (Q_HI166 (hoff 19 (by kernel_rfl)))
      have HB := Aside0.mk Q_HB
      have hc0_ : w'.cell? ⟨gb172, 0, none⟩ = some (.int .i64 t167) := (blk_cell BK172.out 0).trans rfl
      have hc1_ : w'.cell? ⟨gb172, 1, none⟩ = some (.int .i64 t168) := (blk_cell BK172.out 1).trans rfl
      have hc2_ : w'.cell? ⟨gb172, 2, none⟩ = some (.int .i64 t169) := (blk_cell BK172.out 2).trans rfl
      have hc3_ : w'.cell? ⟨gb172, 3, none⟩ = some (.int .i64 t170) := (blk_cell BK172.out 3).trans rfl
      refine value_ (w1 := w') (v := .int .i64 t169) (by rfl) rfl ?_ ?_
      · go_simp
        (try simp only [i64_w])
        try rfl
      refine hK.out _ _ ⟨v174, v179, (by rw [ha.out]; exact putSel_upk 3 hb_ rfl rfl rfl), Q_BK163, Q_BK172, Q_HI166, Q_HB, fun h0_ => absurd ((hoff 18 (by kernel_rfl)).symm.trans h0_) (by decide), fun h0_ _ => absurd ((hoff 19 (by kernel_rfl)).symm.trans h0_) (by decide), Q_HO180, fun h0_ => absurd ((hoff 35 (by kernel_rfl)).symm.trans h0_) (by decide), fun h0_ => absurd ((hoff 36 (by kernel_rfl)).symm.trans h0_) (by decide)⟩
    refine steps_cons ?_ ?_
    · rintro b a w' ⟨v174, v179, ha, Q_BK163, Q_BK172, Q_HI166, Q_HB, Q_HO175, Q_HI166_e19, Q_HO180, Q_HI166_e35, Q_BK163_e36⟩ hb_ hon hoff
      refine ⟨_, rfl, fun K hK => ?_⟩
      have e16 : a.tmps[16]? = some (.int .i64 t167) := by rw [ha]; exact putSel_on (e := (5, 16, .int .i64 t167)) 2 rfl rfl (hon 5 (by kernel_rfl)) rfl
      have e18 : a.tmps[18]? = some (.int .i64 t169) := by rw [ha]; exact putSel_on (e := (7, 18, .int .i64 t169)) 3 rfl rfl (hon 7 (by kernel_rfl)) rfl
      replace ha := Aside0.mk ha
      have BK163 := Aside0.mk (Q_BK163 (hoff 36 (by kernel_rfl)))
      have BK172 := Aside0.mk Q_BK172
      have HI166 := Aside0.mk (Q_HI166 (hoff 19 (by kernel_rfl)))
      have HB := Aside0.mk Q_HB
      refine value_ (w1 := w') (v := .int .i64 (wrap64 (t167 + t169))) (by rfl) rfl ?_ ?_
      · go_simp
        (try simp only [i64_w])
        try rfl
      refine hK.out _ _ ⟨v174, v179, (by rw [ha.out]; exact putSel_upk 4 hb_ rfl rfl rfl), Q_BK163, Q_BK172, Q_HI166, Q_HB, fun h0_ => absurd ((hoff 18 (by kernel_rfl)).symm.trans h0_) (by decide), fun h0_ _ => absurd ((hoff 19 (by kernel_rfl)).symm.trans h0_) (by decide), Q_HO180, fun h0_ => absurd ((hoff 35 (by kernel_rfl)).symm.trans h0_) (by decide), fun h0_ => absurd ((hoff 36 (by kernel_rfl)).symm.trans h0_) (by decide)⟩
    refine steps_cons ?_ ?_
    · rintro b a w' ⟨v174, v179, ha, Q_BK163, Q_BK172, Q_HI166, Q_HB, Q_HO175, Q_HI166_e19, Q_HO180, Q_HI166_e35, Q_BK163_e36⟩ hb_ hon hoff
      refine ⟨_, rfl, fun K hK => ?_⟩
      have e20 : a.tmps[20]? = some (.pointer (some ⟨gb172, 0, none⟩)) := by rw [ha]; exact (putSel_off rfl).trans rfl
      replace ha := Aside0.mk ha
      have BK163 := Aside0.mk (Q_BK163 (hoff 36 (by kernel_rfl)))
      have BK172 := Aside0.mk Q_BK172
      have HI166 := Aside0.mk (Q_HI166 (hoff 19 (by kernel_rfl)))
      have HB := Aside0.mk Q_HB
      have hc0_ : w'.cell? ⟨gb172, 0, none⟩ = some (.int .i64 t167) := (blk_cell BK172.out 0).trans rfl
      have hc1_ : w'.cell? ⟨gb172, 1, none⟩ = some (.int .i64 t168) := (blk_cell BK172.out 1).trans rfl
      have hc2_ : w'.cell? ⟨gb172, 2, none⟩ = some (.int .i64 t169) := (blk_cell BK172.out 2).trans rfl
      have hc3_ : w'.cell? ⟨gb172, 3, none⟩ = some (.int .i64 t170) := (blk_cell BK172.out 3).trans rfl
      refine value_ (w1 := w') (v := .int .i64 t167) (by rfl) rfl ?_ ?_
      · go_simp
        (try simp only [i64_w])
        try rfl
      refine hK.out _ _ ⟨v174, v179, (by rw [ha.out]; exact putSel_upk 5 hb_ rfl rfl rfl), Q_BK163, Q_BK172, Q_HI166, Q_HB, fun h0_ => absurd ((hoff 18 (by kernel_rfl)).symm.trans h0_) (by decide), fun h0_ _ => absurd ((hoff 19 (by kernel_rfl)).symm.trans h0_) (by decide), Q_HO180, fun h0_ => absurd ((hoff 35 (by kernel_rfl)).symm.trans h0_) (by decide), fun h0_ => absurd ((hoff 36 (by kernel_rfl)).symm.trans h0_) (by decide)⟩
    refine steps_cons ?_ ?_
    · rintro b a w' ⟨v174, v179, ha, Q_BK163, Q_BK172, Q_HI166, Q_HB, Q_HO175, Q_HI166_e19, Q_HO180, Q_HI166_e35, Q_BK163_e36⟩ hb_ hon hoff
      refine ⟨_, rfl, fun K hK => ?_⟩
      have e22 : a.tmps[22]? = some (.pointer (some ⟨gb172, 2, none⟩)) := by rw [ha]; exact (putSel_off rfl).trans rfl
      replace ha := Aside0.mk ha
      have BK163 := Aside0.mk (Q_BK163 (hoff 36 (by kernel_rfl)))
      have BK172 := Aside0.mk Q_BK172
      have HI166 := Aside0.mk (Q_HI166 (hoff 19 (by kernel_rfl)))
      have HB := Aside0.mk Q_HB
      have hc0_ : w'.cell? ⟨gb172, 0, none⟩ = some (.int .i64 t167) := (blk_cell BK172.out 0).trans rfl
      have hc1_ : w'.cell? ⟨gb172, 1, none⟩ = some (.int .i64 t168) := (blk_cell BK172.out 1).trans rfl
      have hc2_ : w'.cell? ⟨gb172, 2, none⟩ = some (.int .i64 t169) := (blk_cell BK172.out 2).trans rfl
      have hc3_ : w'.cell? ⟨gb172, 3, none⟩ = some (.int .i64 t170) := (blk_cell BK172.out 3).trans rfl
      refine value_ (w1 := w') (v := .int .i64 t169) (by rfl) rfl ?_ ?_
      · go_simp
        (try simp only [i64_w])
        try rfl
      refine hK.out _ _ ⟨v174, v179, (by rw [ha.out]; exact putSel_upk 6 hb_ rfl rfl rfl), Q_BK163, Q_BK172, Q_HI166, Q_HB, fun h0_ => absurd ((hoff 18 (by kernel_rfl)).symm.trans h0_) (by decide), fun h0_ _ => absurd ((hoff 19 (by kernel_rfl)).symm.trans h0_) (by decide), Q_HO180, fun h0_ => absurd ((hoff 35 (by kernel_rfl)).symm.trans h0_) (by decide), fun h0_ => absurd ((hoff 36 (by kernel_rfl)).symm.trans h0_) (by decide)⟩
    refine steps_cons ?_ ?_
    · rintro b a w' ⟨v174, v179, ha, Q_BK163, Q_BK172, Q_HI166, Q_HB, Q_HO175, Q_HI166_e19, Q_HO180, Q_HI166_e35, Q_BK163_e36⟩ hb_ hon hoff
      refine ⟨_, rfl, fun K hK => ?_⟩
      have e21 : a.tmps[21]? = some (.int .i64 t167) := by rw [ha]; exact putSel_on (e := (10, 21, .int .i64 t167)) 5 rfl rfl (hon 10 (by kernel_rfl)) rfl
      have e23 : a.tmps[23]? = some (.int .i64 t169) := by rw [ha]; exact putSel_on (e := (12, 23, .int .i64 t169)) 6 rfl rfl (hon 12 (by kernel_rfl)) rfl
      replace ha := Aside0.mk ha
      have BK163 := Aside0.mk (Q_BK163 (hoff 36 (by kernel_rfl)))
      have BK172 := Aside0.mk Q_BK172
      have HI166 := Aside0.mk (Q_HI166 (hoff 19 (by kernel_rfl)))
      have HB := Aside0.mk Q_HB
      refine value_ (w1 := w') (v := .int .i64 (wrap64 (t167 + t169))) (by rfl) rfl ?_ ?_
      · go_simp
        (try simp only [i64_w])
        try rfl
      refine hK.out _ _ ⟨v174, v179, (by rw [ha.out]; exact putSel_upk 7 hb_ rfl rfl rfl), Q_BK163, Q_BK172, Q_HI166, Q_HB, fun h0_ => absurd ((hoff 18 (by kernel_rfl)).symm.trans h0_) (by decide), fun h0_ _ => absurd ((hoff 19 (by kernel_rfl)).symm.trans h0_) (by decide), Q_HO180, fun h0_ => absurd ((hoff 35 (by kernel_rfl)).symm.trans h0_) (by decide), fun h0_ => absurd ((hoff 36 (by kernel_rfl)).symm.trans h0_) (by decide)⟩
    refine steps_cons ?_ ?_
    · rintro b a w' ⟨v174, v179, ha, Q_BK163, Q_BK172, Q_HI166, Q_HB, Q_HO175, Q_HI166_e19, Q_HO180, Q_HI166_e35, Q_BK163_e36⟩ hb_ hon hoff
      refine ⟨_, rfl, fun K hK => ?_⟩
      have e24 : a.tmps[24]? = some (.int .i64 (wrap64 (t167 + t169))) := by rw [ha]; exact putSel_on (e := (13, 24, .int .i64 (wrap64 (t167 + t169)))) 7 rfl rfl (hon 13 (by kernel_rfl)) rfl
      replace ha := Aside0.mk ha
      have BK163 := Aside0.mk (Q_BK163 (hoff 36 (by kernel_rfl)))
      have BK172 := Aside0.mk Q_BK172
      have HI166 := Aside0.mk (Q_HI166 (hoff 19 (by kernel_rfl)))
      have HB := Aside0.mk Q_HB
      refine value_ (w1 := w') (v := .int .i64 (wrap64 ((wrap64 (t167 + t169)) - 1))) (by rfl) rfl ?_ ?_
      · go_simp
        (try simp only [i64_w])
        try rfl
      refine hK.out _ _ ⟨v174, v179, (by rw [ha.out]; exact putSel_upk 8 hb_ rfl rfl rfl), Q_BK163, Q_BK172, Q_HI166, Q_HB, fun h0_ => absurd ((hoff 18 (by kernel_rfl)).symm.trans h0_) (by decide), fun h0_ _ => absurd ((hoff 19 (by kernel_rfl)).symm.trans h0_) (by decide), Q_HO180, fun h0_ => absurd ((hoff 35 (by kernel_rfl)).symm.trans h0_) (by decide), fun h0_ => absurd ((hoff 36 (by kernel_rfl)).symm.trans h0_) (by decide)⟩
    refine steps_cons ?_ ?_
    · rintro b a w' ⟨v174, v179, ha, Q_BK163, Q_BK172, Q_HI166, Q_HB, Q_HO175, Q_HI166_e19, Q_HO180, Q_HI166_e35, Q_BK163_e36⟩ hb_ hon hoff
      refine ⟨_, rfl, fun K hK => ?_⟩
      have e26 : a.tmps[26]? = some (.pointer (some ⟨gb172, 0, none⟩)) := by rw [ha]; exact (putSel_off rfl).trans rfl
      replace ha := Aside0.mk ha
      have BK163 := Aside0.mk (Q_BK163 (hoff 36 (by kernel_rfl)))
      have BK172 := Aside0.mk Q_BK172
      have HI166 := Aside0.mk (Q_HI166 (hoff 19 (by kernel_rfl)))
      have HB := Aside0.mk Q_HB
      have hc0_ : w'.cell? ⟨gb172, 0, none⟩ = some (.int .i64 t167) := (blk_cell BK172.out 0).trans rfl
      have hc1_ : w'.cell? ⟨gb172, 1, none⟩ = some (.int .i64 t168) := (blk_cell BK172.out 1).trans rfl
      have hc2_ : w'.cell? ⟨gb172, 2, none⟩ = some (.int .i64 t169) := (blk_cell BK172.out 2).trans rfl
      have hc3_ : w'.cell? ⟨gb172, 3, none⟩ = some (.int .i64 t170) := (blk_cell BK172.out 3).trans rfl
      refine value_ (w1 := w') (v := .int .i64 t167) (by rfl) rfl ?_ ?_
      · go_simp
        (try simp only [i64_w])
        try rfl
      refine hK.out _ _ ⟨v174, v179, (by rw [ha.out]; exact putSel_upk 9 hb_ rfl rfl rfl), Q_BK163, Q_BK172, Q_HI166, Q_HB, fun h0_ => absurd ((hoff 18 (by kernel_rfl)).symm.trans h0_) (by decide), fun h0_ _ => absurd ((hoff 19 (by kernel_rfl)).symm.trans h0_) (by decide), Q_HO180, fun h0_ => absurd ((hoff 35 (by kernel_rfl)).symm.trans h0_) (by decide), fun h0_ => absurd ((hoff 36 (by kernel_rfl)).symm.trans h0_) (by decide)⟩
    refine steps_cons ?_ ?_
    · rintro b a w' ⟨v174, v179, ha, Q_BK163, Q_BK172, Q_HI166, Q_HB, Q_HO175, Q_HI166_e19, Q_HO180, Q_HI166_e35, Q_BK163_e36⟩ hb_ hon hoff
      refine ⟨_, rfl, fun K hK => ?_⟩
      have e27 : a.tmps[27]? = some (.int .i64 t167) := by rw [ha]; exact putSel_on (e := (16, 27, .int .i64 t167)) 9 rfl rfl (hon 16 (by kernel_rfl)) rfl
      replace ha := Aside0.mk ha
      have BK163 := Aside0.mk (Q_BK163 (hoff 36 (by kernel_rfl)))
      have BK172 := Aside0.mk Q_BK172
      have HI166 := Aside0.mk (Q_HI166 (hoff 19 (by kernel_rfl)))
      have HB := Aside0.mk Q_HB
      refine value_ (w1 := w') (v := .int .i64 (wrap64 (t167 - 1))) (by rfl) rfl ?_ ?_
      · go_simp
        (try simp only [i64_w])
        try rfl
      refine hK.out _ _ ⟨v174, v179, (by rw [ha.out]; exact putSel_upk 10 hb_ rfl rfl rfl), Q_BK163, Q_BK172, Q_HI166, Q_HB, fun h0_ => absurd ((hoff 18 (by kernel_rfl)).symm.trans h0_) (by decide), fun h0_ _ => absurd ((hoff 19 (by kernel_rfl)).symm.trans h0_) (by decide), Q_HO180, fun h0_ => absurd ((hoff 35 (by kernel_rfl)).symm.trans h0_) (by decide), fun h0_ => absurd ((hoff 36 (by kernel_rfl)).symm.trans h0_) (by decide)⟩
    refine steps_cons ?_ ?_
    · rintro b a w' ⟨v174, v179, ha, Q_BK163, Q_BK172, Q_HI166, Q_HB, Q_HO175, Q_HI166_e19, Q_HO180, Q_HI166_e35, Q_BK163_e36⟩ hb_ hon hoff
      refine ⟨_, rfl, fun K hK => ?_⟩
      have e14 : a.tmps[14]? = some (.int .i64 t167) := by rw [ha]; exact putSel_on (e := (3, 14, .int .i64 t167)) 1 rfl rfl (hon 3 (by kernel_rfl)) rfl
      have e19 : a.tmps[19]? = some (.int .i64 (wrap64 (t167 + t169))) := by rw [ha]; exact putSel_on (e := (8, 19, .int .i64 (wrap64 (t167 + t169)))) 4 rfl rfl (hon 8 (by kernel_rfl)) rfl
      have e25 : a.tmps[25]? = some (.int .i64 (wrap64 ((wrap64 (t167 + t169)) - 1))) := by rw [ha]; exact putSel_on (e := (14, 25, .int .i64 (wrap64 ((wrap64 (t167 + t169)) - 1)))) 8 rfl rfl (hon 14 (by kernel_rfl)) rfl
      have e28 : a.tmps[28]? = some (.int .i64 (wrap64 (t167 - 1))) := by rw [ha]; exact putSel_on (e := (17, 28, .int .i64 (wrap64 (t167 - 1)))) 10 rfl rfl (hon 17 (by kernel_rfl)) rfl
      replace ha := Aside0.mk ha
      have BK163 := Aside0.mk (Q_BK163 (hoff 36 (by kernel_rfl)))
      have BK172 := Aside0.mk Q_BK172
      have HI166 := Aside0.mk (Q_HI166 (hoff 19 (by kernel_rfl)))
      have HB := Aside0.mk Q_HB
      refine Kd.R_lit_step (Kd.int .i64) _ 3 ?hg (N := 29) ?hd (xs := ([t167, wrap64 (t167 + t169), wrap64 ((wrap64 (t167 + t169)) - 1), wrap64 (t167 - 1), 5] : List Int)) (inner := [.int .i64 t167, .int .i64 (wrap64 (t167 + t169)), .int .i64 (wrap64 ((wrap64 (t167 + t169)) - 1)), .int .i64 (wrap64 (t167 - 1)), .int .i64 5]) (ok := fun _ => True) (okp := fun _ => True) ?hr ?hp (fun _ hk => hk) trivial (Below.refl _ _) (Nat.le_refl _) (by simp) ?_; (case hd => rfl); (case hg => rfl); (case hr => first | (go_simp; done) | (go_simp; rfl)); (case hp => exact (Reps.one (show Kd.M (Kd.int .i64) _ _ _ t167 [.int .i64 t167] from rfl) (Reps.one (show Kd.M (Kd.int .i64) _ _ _ (wrap64 (t167 + t169)) [.int .i64 (wrap64 (t167 + t169))] from rfl) (Reps.one (show Kd.M (Kd.int .i64) _ _ _ (wrap64 ((wrap64 (t167 + t169)) - 1)) [.int .i64 (wrap64 ((wrap64 (t167 + t169)) - 1))] from rfl) (Reps.one (show Kd.M (Kd.int .i64) _ _ _ (wrap64 (t167 - 1)) [.int .i64 (wrap64 (t167 - 1))] from rfl) (Reps.one (show Kd.M (Kd.int .i64) _ _ _ 5 [.int .i64 5] from rfl) (Reps.none _ _)))))))
      intro v174 w15 ho16 hb hg_ hnew_
      clear hg_ hnew_
      (first | rw [← Ny173.out] at ho16 | (simp only [Int.reduceToNat] at ho16; rw [← Ny173.out] at ho16))
      have n0_ := Aside0.mk (Kd.R_lower ho16 (below_size (by repeat (first | (with_reducible first | exact HB.out | apply below_alloc | apply pw_below_drewN | apply below_drew1 | refine below_set ?_ (IsS91.ge HI166.out) | refine below_set ?_ GE163.out | refine below_set ?_ GE172.out) | exact HB.out))))
      have n1_ := Aside0.mk (blk_below (g := gb163) (o := .cells #[.int .i64 0, .int .i64 0, .int .i64 0, .int .i64 0] 31 (0, 0)) (by (with_reducible repeat (first | refine blk_drewN ?_ _ | refine blk_drew ?_ | refine blk_alloc ?_ _)); exact BK163.out) hb)
      have n2_ := Aside0.mk (IsS91.below (by repeat (first | (with_reducible first | exact HI166.out | apply IsS91.alloc | apply IsS91.drewN | apply IsS91.drew | apply IsS91.set_1 | refine IsS91.far ?_ NB166_163.out _ | refine IsS91.far ?_ NB166_172.out _) | exact HI166.out)) hb)
      have n3_ := Aside0.mk (blk_below (g := gb172) (o := .cells #[.int .i64 t167, .int .i64 t168, .int .i64 t169, .int .i64 t170] 31 (0, 0)) (by (with_reducible repeat (first | refine blk_drewN ?_ _ | refine blk_drew ?_ | refine blk_alloc ?_ _)); exact BK172.out) hb)
      have n4_ := Aside0.mk (below_step (by repeat (first | (with_reducible first | exact HB.out | apply below_alloc | apply pw_below_drewN | apply below_drew1 | refine below_set ?_ (IsS91.ge HI166.out) | refine below_set ?_ GE163.out | refine below_set ?_ GE172.out) | exact HB.out)) hb)
      have z_HO180 := fun (h0_ : b 34 = true) => (show Kd.R (Kd.int .i64) 3 w15 w.heap.size (fun _ => True) v179 y178 from by first | exact (Kd.R_elder' (by (with_reducible repeat (first | apply Kd.R_alloc | apply Kd.R_drewN | apply Kd.R_drew)); exact (Q_HO180 h0_)) (Kd.R_base ho16) hb) | exact Kd.R_mono (Kd.R_elder' (by (with_reducible repeat (first | apply Kd.R_alloc | apply Kd.R_drewN | apply Kd.R_drew)); exact (Q_HO180 h0_)) (Kd.R_base ho16) hb) (fun _ h_ => by first | trivial | exact h_ | exact h_.1))
      clear BK163
      clear HI166
      clear BK172
      clear HB
      have HO175 := n0_
      have BK163 := n1_
      have HI166 := n2_
      have BK172 := n3_
      have HB := n4_
      clear n0_ n1_ n2_ n3_ n4_
      clear hb ho16
      refine hK.out _ _ ⟨v174, v179, (by rw [ha.out]; exact putSel_upk 11 hb_ rfl rfl rfl), fun _ => (by (with_reducible repeat (first | refine blk_drewN ?_ _ | refine blk_drew ?_ | refine blk_alloc ?_ _)); exact BK163.out), (by (with_reducible repeat (first | refine blk_drewN ?_ _ | refine blk_drew ?_ | refine blk_alloc ?_ _)); exact BK172.out), fun _ => (by repeat (first | (with_reducible first | exact HI166.out | apply IsS91.alloc | apply IsS91.drewN | apply IsS91.drew | apply IsS91.set_1 | refine IsS91.far ?_ NB166_163.out _ | refine IsS91.far ?_ NB166_172.out _) | exact HI166.out)), (by repeat (first | (with_reducible first | exact HB.out | apply below_alloc | apply pw_below_drewN | apply below_drew1 | refine below_set ?_ (IsS91.ge HI166.out) | refine below_set ?_ GE163.out | refine below_set ?_ GE172.out) | exact HB.out)), fun _ => (by (with_reducible repeat (first | apply Kd.R_alloc | apply Kd.R_drewN | apply Kd.R_drew)); exact HO175.out), fun h0_ _ => absurd ((hoff 19 (by kernel_rfl)).symm.trans h0_) (by decide), z_HO180, fun h0_ => absurd ((hoff 35 (by kernel_rfl)).symm.trans h0_) (by decide), fun h0_ => absurd ((hoff 36 (by kernel_rfl)).symm.trans h0_) (by decide)⟩
    refine steps_cons ?_ ?_
    · rintro b a w' ⟨v174, v179, ha, Q_BK163, Q_BK172, Q_HI166, Q_HB, Q_HO175, Q_HI166_e19, Q_HO180, Q_HI166_e35, Q_BK163_e36⟩ hb_ hon hoff
      refine ⟨_, rfl, fun K hK => ?_⟩
      have e12 : a.tmps[12]? = some (.pointer (some ⟨g166, 0, none⟩)) := by rw [ha]; exact (putSel_off rfl).trans rfl
      have e29 : a.tmps[29]? = some (v174) := by rw [ha]; exact putSel_on (e := (18, 29, v174)) 11 rfl rfl (hon 18 (by kernel_rfl)) rfl
      replace ha := Aside0.mk ha
      have BK163 := Aside0.mk (Q_BK163 (hoff 36 (by kernel_rfl)))
      have BK172 := Aside0.mk Q_BK172
      have HI166 := Aside0.mk (Q_HI166 hb_)
      have HB := Aside0.mk Q_HB
      have HO175 := Aside0.mk (Q_HO175 (hon 18 (by kernel_rfl)))
      obtain ⟨Ao18, co18, eo18⟩ := Kd.R_slice HO175.out
      (first | subst eo18 | (injection eo18 with f1_ f2_ f3_; have f4_ := f1_.symm; have f5_ := f3_.symm; clear f1_ f2_ f3_; subst f4_; subst f5_))
      refine goes_ Try.func83 (by kernel_rfl) rfl #[.pointer (some ⟨g166, 0, none⟩), .slice Ao18 y173.length co18] (by rfl) rfl rfl (by first | (simp only [List.map_toArray, List.map_cons, List.map_nil, Act.eval, Array.getD_eq_getD_getElem?, Option.getD_some, e12, e29]; done) | (simp only [List.map_toArray, List.map_cons, List.map_nil, Act.eval, Array.getD_eq_getD_getElem?, Option.getD_some, e12, e29]; rfl)) ?_
      with_reducible refine (spec_reader_one.calls k g166 t164 t171 _ _ y173 t176 t177 w _ ?side1 ?side2 ?side3 ?side4 ?side5 A4.out).mono ?_
      (case side1 => repeat (first | (with_reducible first | exact HI166.out | apply IsS91.alloc | apply IsS91.drewN | apply IsS91.drew | apply IsS91.set_1 | refine IsS91.far ?_ NB166_163.out _ | refine IsS91.far ?_ NB166_172.out _) | exact HI166.out))
      (case side2 => repeat (first | (with_reducible first | exact HB.out | apply below_alloc | apply pw_below_drewN | apply below_drew1 | refine below_set ?_ (IsS91.ge HI166.out) | refine below_set ?_ GE163.out | refine below_set ?_ GE172.out) | exact HB.out))
      (case side3 => repeat (first | exact (Kd.R_reads' HO175.out).2.2 | (with_reducible refine Kd.C_alloc ?_ _) | (with_reducible refine Kd.C_drewN ?_ _) | (with_reducible refine Kd.C_drew ?_)))
      (case side4 => exact (Kd.R_reads' HO175.out).2.1)
      (case side5 => exact far_slice (IsS91.own_ne HI166.out HO175.out (by decide)))
      rintro e w19 ⟨rfl, hi, hb, hk⟩
      refine ⟨_, rfl, ?_⟩
      have n0_ := Aside0.mk (KeepBut.blk hk (g' := gb163) (o := .cells #[.int .i64 0, .int .i64 0, .int .i64 0, .int .i64 0] 31 (0, 0)) (by (with_reducible repeat (first | refine blk_drewN ?_ _ | refine blk_drew ?_ | refine blk_alloc ?_ _)); exact BK163.out) NB163_166.out (by simp))
      have n1_ := Aside0.mk (KeepBut.blk hk (g' := gb172) (o := .cells #[.int .i64 t167, .int .i64 t168, .int .i64 t169, .int .i64 t170] 31 (0, 0)) (by (with_reducible repeat (first | refine blk_drewN ?_ _ | refine blk_drew ?_ | refine blk_alloc ?_ _)); exact BK172.out) NB172_166.out (by simp))
      have n2_ := Aside0.mk (Kd.R_mono (Kd.R_keep (IsS91.apart (show IsS91 w _ g166 t164 t171 from by repeat (first | (with_reducible first | exact HI166.out | apply IsS91.alloc | apply IsS91.drewN | apply IsS91.drew | apply IsS91.set_1 | refine IsS91.far ?_ NB166_163.out _ | refine IsS91.far ?_ NB166_172.out _) | exact HI166.out)) (by (with_reducible repeat (first | apply Kd.R_alloc | apply Kd.R_drewN | apply Kd.R_drew)); exact HO175.out) (by decide)) hk (fun _ h => h.2)) (fun _ h => h.1))
      have n3_ := Aside0.mk (hb)
      have n4_ := Aside0.mk (hi)
      have z_HO180 := fun (h0_ : b 34 = true) => (show Kd.R (Kd.int .i64) 3 w19 w.heap.size (fun _ => True) v179 y178 from by first | exact (Kd.R_mono (Kd.R_keep (IsS91.apart (show IsS91 w _ g166 t164 t171 from by repeat (first | (with_reducible first | exact HI166.out | apply IsS91.alloc | apply IsS91.drewN | apply IsS91.drew | apply IsS91.set_1 | refine IsS91.far ?_ NB166_163.out _ | refine IsS91.far ?_ NB166_172.out _) | exact HI166.out)) (by (with_reducible repeat (first | apply Kd.R_alloc | apply Kd.R_drewN | apply Kd.R_drew)); exact (Q_HO180 h0_)) (by decide)) hk (fun _ h => h.2)) (fun _ h => h.1)) | exact Kd.R_mono (Kd.R_mono (Kd.R_keep (IsS91.apart (show IsS91 w _ g166 t164 t171 from by repeat (first | (with_reducible first | exact HI166.out | apply IsS91.alloc | apply IsS91.drewN | apply IsS91.drew | apply IsS91.set_1 | refine IsS91.far ?_ NB166_163.out _ | refine IsS91.far ?_ NB166_172.out _) | exact HI166.out)) (by (with_reducible repeat (first | apply Kd.R_alloc | apply Kd.R_drewN | apply Kd.R_drew)); exact (Q_HO180 h0_)) (by decide)) hk (fun _ h => h.2)) (fun _ h => h.1)) (fun _ h_ => by first | trivial | exact h_ | exact h_.1))
      clear BK163
      clear BK172
      clear HO175
      clear HB
      clear HI166
      have BK163 := n0_
      have BK172 := n1_
      have HO175 := n2_
      have HB := n3_
      have HI166 := n4_
      clear n0_ n1_ n2_ n3_ n4_
      (try clear hb)
      (try clear hb2)
      (try clear hk)
      (try clear hi)
      refine hK.out _ _ ⟨.slice Ao18 y173.length co18, v179, (by rw [ha.out]; exact putSel_upk 12 hb_ rfl rfl rfl), fun _ => (by (with_reducible repeat (first | refine blk_drewN ?_ _ | refine blk_drew ?_ | refine blk_alloc ?_ _)); exact BK163.out), (by (with_reducible repeat (first | refine blk_drewN ?_ _ | refine blk_drew ?_ | refine blk_alloc ?_ _)); exact BK172.out), fun h0_ => absurd ((up_self b 19).symm.trans h0_) (by decide), (by repeat (first | (with_reducible first | exact HB.out | apply below_alloc | apply pw_below_drewN | apply below_drew1 | refine below_set ?_ (IsS91.ge HI166.out) | refine below_set ?_ GE163.out | refine below_set ?_ GE172.out) | exact HB.out)), fun _ => (by (with_reducible repeat (first | apply Kd.R_alloc | apply Kd.R_drewN | apply Kd.R_drew)); exact HO175.out), fun _ _ => (by repeat (first | (with_reducible first | exact HI166.out | apply IsS91.alloc | apply IsS91.drewN | apply IsS91.drew | apply IsS91.set_1 | refine IsS91.far ?_ NB166_163.out _ | refine IsS91.far ?_ NB166_172.out _) | exact HI166.out)), z_HO180, fun h0_ => absurd ((hoff 35 (by kernel_rfl)).symm.trans h0_) (by decide), fun h0_ => absurd ((hoff 36 (by kernel_rfl)).symm.trans h0_) (by decide)⟩
    refine steps_cons ?_ ?_
    · rintro b a w' ⟨v174, v179, ha, Q_BK163, Q_BK172, Q_HI166, Q_HB, Q_HO175, Q_HI166_e19, Q_HO180, Q_HI166_e35, Q_BK163_e36⟩ hb_ hon hoff
      refine ⟨_, rfl, fun K hK => ?_⟩
      have e32 : a.tmps[32]? = some (.pointer (some ⟨gb172, 1, none⟩)) := by rw [ha]; exact (putSel_off rfl).trans rfl
      replace ha := Aside0.mk ha
      have BK163 := Aside0.mk (Q_BK163 (hoff 36 (by kernel_rfl)))
      have BK172 := Aside0.mk Q_BK172
      have HB := Aside0.mk Q_HB
      have hc0_ : w'.cell? ⟨gb172, 0, none⟩ = some (.int .i64 t167) := (blk_cell BK172.out 0).trans rfl
      have hc1_ : w'.cell? ⟨gb172, 1, none⟩ = some (.int .i64 t168) := (blk_cell BK172.out 1).trans rfl
      have hc2_ : w'.cell? ⟨gb172, 2, none⟩ = some (.int .i64 t169) := (blk_cell BK172.out 2).trans rfl
      have hc3_ : w'.cell? ⟨gb172, 3, none⟩ = some (.int .i64 t170) := (blk_cell BK172.out 3).trans rfl
      refine value_ (w1 := w') (v := .int .i64 t168) (by rfl) rfl ?_ ?_
      · go_simp
        (try simp only [i64_w])
        try rfl
      refine hK.out _ _ ⟨v174, v179, (by rw [ha.out]; exact putSel_upk 13 hb_ rfl rfl rfl), Q_BK163, Q_BK172, Q_HI166, Q_HB, Q_HO175, Q_HI166_e19, fun h0_ => absurd ((hoff 34 (by kernel_rfl)).symm.trans h0_) (by decide), fun h0_ => absurd ((hoff 35 (by kernel_rfl)).symm.trans h0_) (by decide), fun h0_ => absurd ((hoff 36 (by kernel_rfl)).symm.trans h0_) (by decide)⟩
    refine steps_cons ?_ ?_
    · rintro b a w' ⟨v174, v179, ha, Q_BK163, Q_BK172, Q_HI166, Q_HB, Q_HO175, Q_HI166_e19, Q_HO180, Q_HI166_e35, Q_BK163_e36⟩ hb_ hon hoff
      refine ⟨_, rfl, fun K hK => ?_⟩
      have e34 : a.tmps[34]? = some (.pointer (some ⟨gb172, 1, none⟩)) := by rw [ha]; exact (putSel_off rfl).trans rfl
      replace ha := Aside0.mk ha
      have BK163 := Aside0.mk (Q_BK163 (hoff 36 (by kernel_rfl)))
      have BK172 := Aside0.mk Q_BK172
      have HB := Aside0.mk Q_HB
      have hc0_ : w'.cell? ⟨gb172, 0, none⟩ = some (.int .i64 t167) := (blk_cell BK172.out 0).trans rfl
      have hc1_ : w'.cell? ⟨gb172, 1, none⟩ = some (.int .i64 t168) := (blk_cell BK172.out 1).trans rfl
      have hc2_ : w'.cell? ⟨gb172, 2, none⟩ = some (.int .i64 t169) := (blk_cell BK172.out 2).trans rfl
      have hc3_ : w'.cell? ⟨gb172, 3, none⟩ = some (.int .i64 t170) := (blk_cell BK172.out 3).trans rfl
      refine value_ (w1 := w') (v := .int .i64 t168) (by rfl) rfl ?_ ?_
      · go_simp
        (try simp only [i64_w])
        try rfl
      refine hK.out _ _ ⟨v174, v179, (by rw [ha.out]; exact putSel_upk 14 hb_ rfl rfl rfl), Q_BK163, Q_BK172, Q_HI166, Q_HB, Q_HO175, Q_HI166_e19, fun h0_ => absurd ((hoff 34 (by kernel_rfl)).symm.trans h0_) (by decide), fun h0_ => absurd ((hoff 35 (by kernel_rfl)).symm.trans h0_) (by decide), fun h0_ => absurd ((hoff 36 (by kernel_rfl)).symm.trans h0_) (by decide)⟩
    refine steps_cons ?_ ?_
    · rintro b a w' ⟨v174, v179, ha, Q_BK163, Q_BK172, Q_HI166, Q_HB, Q_HO175, Q_HI166_e19, Q_HO180, Q_HI166_e35, Q_BK163_e36⟩ hb_ hon hoff
      refine ⟨_, rfl, fun K hK => ?_⟩
      have e36 : a.tmps[36]? = some (.pointer (some ⟨gb172, 3, none⟩)) := by rw [ha]; exact (putSel_off rfl).trans rfl
      replace ha := Aside0.mk ha
      have BK163 := Aside0.mk (Q_BK163 (hoff 36 (by kernel_rfl)))
      have BK172 := Aside0.mk Q_BK172
      have HB := Aside0.mk Q_HB
      have hc0_ : w'.cell? ⟨gb172, 0, none⟩ = some (.int .i64 t167) := (blk_cell BK172.out 0).trans rfl
      have hc1_ : w'.cell? ⟨gb172, 1, none⟩ = some (.int .i64 t168) := (blk_cell BK172.out 1).trans rfl
      have hc2_ : w'.cell? ⟨gb172, 2, none⟩ = some (.int .i64 t169) := (blk_cell BK172.out 2).trans rfl
      have hc3_ : w'.cell? ⟨gb172, 3, none⟩ = some (.int .i64 t170) := (blk_cell BK172.out 3).trans rfl
      refine value_ (w1 := w') (v := .int .i64 t170) (by rfl) rfl ?_ ?_
      · go_simp
        (try simp only [i64_w])
        try rfl
      refine hK.out _ _ ⟨v174, v179, (by rw [ha.out]; exact putSel_upk 15 hb_ rfl rfl rfl), Q_BK163, Q_BK172, Q_HI166, Q_HB, Q_HO175, Q_HI166_e19, fun h0_ => absurd ((hoff 34 (by kernel_rfl)).symm.trans h0_) (by decide), fun h0_ => absurd ((hoff 35 (by kernel_rfl)).symm.trans h0_) (by decide), fun h0_ => absurd ((hoff 36 (by kernel_rfl)).symm.trans h0_) (by decide)⟩
    refine steps_cons ?_ ?_
    · rintro b a w' ⟨v174, v179, ha, Q_BK163, Q_BK172, Q_HI166, Q_HB, Q_HO175, Q_HI166_e19, Q_HO180, Q_HI166_e35, Q_BK163_e36⟩ hb_ hon hoff
      refine ⟨_, rfl, fun K hK => ?_⟩
      have e35 : a.tmps[35]? = some (.int .i64 t168) := by rw [ha]; exact putSel_on (e := (24, 35, .int .i64 t168)) 14 rfl rfl (hon 24 (by kernel_rfl)) rfl
      have e37 : a.tmps[37]? = some (.int .i64 t170) := by rw [ha]; exact putSel_on (e := (26, 37, .int .i64 t170)) 15 rfl rfl (hon 26 (by kernel_rfl)) rfl
      replace ha := Aside0.mk ha
      have BK163 := Aside0.mk (Q_BK163 (hoff 36 (by kernel_rfl)))
      have BK172 := Aside0.mk Q_BK172
      have HB := Aside0.mk Q_HB
      refine value_ (w1 := w') (v := .int .i64 (wrap64 (t168 + t170))) (by rfl) rfl ?_ ?_
      · go_simp
        (try simp only [i64_w])
        try rfl
      refine hK.out _ _ ⟨v174, v179, (by rw [ha.out]; exact putSel_upk 16 hb_ rfl rfl rfl), Q_BK163, Q_BK172, Q_HI166, Q_HB, Q_HO175, Q_HI166_e19, fun h0_ => absurd ((hoff 34 (by kernel_rfl)).symm.trans h0_) (by decide), fun h0_ => absurd ((hoff 35 (by kernel_rfl)).symm.trans h0_) (by decide), fun h0_ => absurd ((hoff 36 (by kernel_rfl)).symm.trans h0_) (by decide)⟩
    refine steps_cons ?_ ?_
    · rintro b a w' ⟨v174, v179, ha, Q_BK163, Q_BK172, Q_HI166, Q_HB, Q_HO175, Q_HI166_e19, Q_HO180, Q_HI166_e35, Q_BK163_e36⟩ hb_ hon hoff
      refine ⟨_, rfl, fun K hK => ?_⟩
      have e38 : a.tmps[38]? = some (.int .i64 (wrap64 (t168 + t170))) := by rw [ha]; exact putSel_on (e := (27, 38, .int .i64 (wrap64 (t168 + t170)))) 16 rfl rfl (hon 27 (by kernel_rfl)) rfl
      replace ha := Aside0.mk ha
      have BK163 := Aside0.mk (Q_BK163 (hoff 36 (by kernel_rfl)))
      have BK172 := Aside0.mk Q_BK172
      have HB := Aside0.mk Q_HB
      refine value_ (w1 := w') (v := .int .i64 (wrap64 ((wrap64 (t168 + t170)) - 1))) (by rfl) rfl ?_ ?_
      · go_simp
        (try simp only [i64_w])
        try rfl
      refine hK.out _ _ ⟨v174, v179, (by rw [ha.out]; exact putSel_upk 17 hb_ rfl rfl rfl), Q_BK163, Q_BK172, Q_HI166, Q_HB, Q_HO175, Q_HI166_e19, fun h0_ => absurd ((hoff 34 (by kernel_rfl)).symm.trans h0_) (by decide), fun h0_ => absurd ((hoff 35 (by kernel_rfl)).symm.trans h0_) (by decide), fun h0_ => absurd ((hoff 36 (by kernel_rfl)).symm.trans h0_) (by decide)⟩
    refine steps_cons ?_ ?_
    · rintro b a w' ⟨v174, v179, ha, Q_BK163, Q_BK172, Q_HI166, Q_HB, Q_HO175, Q_HI166_e19, Q_HO180, Q_HI166_e35, Q_BK163_e36⟩ hb_ hon hoff
      refine ⟨_, rfl, fun K hK => ?_⟩
      have e40 : a.tmps[40]? = some (.pointer (some ⟨gb172, 1, none⟩)) := by rw [ha]; exact (putSel_off rfl).trans rfl
      replace ha := Aside0.mk ha
      have BK163 := Aside0.mk (Q_BK163 (hoff 36 (by kernel_rfl)))
      have BK172 := Aside0.mk Q_BK172
      have HB := Aside0.mk Q_HB
      have hc0_ : w'.cell? ⟨gb172, 0, none⟩ = some (.int .i64 t167) := (blk_cell BK172.out 0).trans rfl
      have hc1_ : w'.cell? ⟨gb172, 1, none⟩ = some (.int .i64 t168) := (blk_cell BK172.out 1).trans rfl
      have hc2_ : w'.cell? ⟨gb172, 2, none⟩ = some (.int .i64 t169) := (blk_cell BK172.out 2).trans rfl
      have hc3_ : w'.cell? ⟨gb172, 3, none⟩ = some (.int .i64 t170) := (blk_cell BK172.out 3).trans rfl
      refine value_ (w1 := w') (v := .int .i64 t168) (by rfl) rfl ?_ ?_
      · go_simp
        (try simp only [i64_w])
        try rfl
      refine hK.out _ _ ⟨v174, v179, (by rw [ha.out]; exact putSel_upk 18 hb_ rfl rfl rfl), Q_BK163, Q_BK172, Q_HI166, Q_HB, Q_HO175, Q_HI166_e19, fun h0_ => absurd ((hoff 34 (by kernel_rfl)).symm.trans h0_) (by decide), fun h0_ => absurd ((hoff 35 (by kernel_rfl)).symm.trans h0_) (by decide), fun h0_ => absurd ((hoff 36 (by kernel_rfl)).symm.trans h0_) (by decide)⟩
    refine steps_cons ?_ ?_
    · rintro b a w' ⟨v174, v179, ha, Q_BK163, Q_BK172, Q_HI166, Q_HB, Q_HO175, Q_HI166_e19, Q_HO180, Q_HI166_e35, Q_BK163_e36⟩ hb_ hon hoff
      refine ⟨_, rfl, fun K hK => ?_⟩
      have e42 : a.tmps[42]? = some (.pointer (some ⟨gb172, 3, none⟩)) := by rw [ha]; exact (putSel_off rfl).trans rfl
      replace ha := Aside0.mk ha
      have BK163 := Aside0.mk (Q_BK163 (hoff 36 (by kernel_rfl)))
      have BK172 := Aside0.mk Q_BK172
      have HB := Aside0.mk Q_HB
      have hc0_ : w'.cell? ⟨gb172, 0, none⟩ = some (.int .i64 t167) := (blk_cell BK172.out 0).trans rfl
      have hc1_ : w'.cell? ⟨gb172, 1, none⟩ = some (.int .i64 t168) := (blk_cell BK172.out 1).trans rfl
      have hc2_ : w'.cell? ⟨gb172, 2, none⟩ = some (.int .i64 t169) := (blk_cell BK172.out 2).trans rfl
      have hc3_ : w'.cell? ⟨gb172, 3, none⟩ = some (.int .i64 t170) := (blk_cell BK172.out 3).trans rfl
      refine value_ (w1 := w') (v := .int .i64 t170) (by rfl) rfl ?_ ?_
      · go_simp
        (try simp only [i64_w])
        try rfl
      refine hK.out _ _ ⟨v174, v179, (by rw [ha.out]; exact putSel_upk 19 hb_ rfl rfl rfl), Q_BK163, Q_BK172, Q_HI166, Q_HB, Q_HO175, Q_HI166_e19, fun h0_ => absurd ((hoff 34 (by kernel_rfl)).symm.trans h0_) (by decide), fun h0_ => absurd ((hoff 35 (by kernel_rfl)).symm.trans h0_) (by decide), fun h0_ => absurd ((hoff 36 (by kernel_rfl)).symm.trans h0_) (by decide)⟩
    refine steps_cons ?_ ?_
    · rintro b a w' ⟨v174, v179, ha, Q_BK163, Q_BK172, Q_HI166, Q_HB, Q_HO175, Q_HI166_e19, Q_HO180, Q_HI166_e35, Q_BK163_e36⟩ hb_ hon hoff
      refine ⟨_, rfl, fun K hK => ?_⟩
      have e41 : a.tmps[41]? = some (.int .i64 t168) := by rw [ha]; exact putSel_on (e := (30, 41, .int .i64 t168)) 18 rfl rfl (hon 30 (by kernel_rfl)) rfl
      have e43 : a.tmps[43]? = some (.int .i64 t170) := by rw [ha]; exact putSel_on (e := (32, 43, .int .i64 t170)) 19 rfl rfl (hon 32 (by kernel_rfl)) rfl
      replace ha := Aside0.mk ha
      have BK163 := Aside0.mk (Q_BK163 (hoff 36 (by kernel_rfl)))
      have BK172 := Aside0.mk Q_BK172
      have HB := Aside0.mk Q_HB
      refine value_ (w1 := w') (v := .int .i64 (wrap64 (t168 + t170))) (by rfl) rfl ?_ ?_
      · go_simp
        (try simp only [i64_w])
        try rfl
      refine hK.out _ _ ⟨v174, v179, (by rw [ha.out]; exact putSel_upk 20 hb_ rfl rfl rfl), Q_BK163, Q_BK172, Q_HI166, Q_HB, Q_HO175, Q_HI166_e19, fun h0_ => absurd ((hoff 34 (by kernel_rfl)).symm.trans h0_) (by decide), fun h0_ => absurd ((hoff 35 (by kernel_rfl)).symm.trans h0_) (by decide), fun h0_ => absurd ((hoff 36 (by kernel_rfl)).symm.trans h0_) (by decide)⟩
    refine steps_cons ?_ ?_
    · rintro b a w' ⟨v174, v179, ha, Q_BK163, Q_BK172, Q_HI166, Q_HB, Q_HO175, Q_HI166_e19, Q_HO180, Q_HI166_e35, Q_BK163_e36⟩ hb_ hon hoff
      refine ⟨_, rfl, fun K hK => ?_⟩
      have e33 : a.tmps[33]? = some (.int .i64 t168) := by rw [ha]; exact putSel_on (e := (22, 33, .int .i64 t168)) 13 rfl rfl (hon 22 (by kernel_rfl)) rfl
      have e39 : a.tmps[39]? = some (.int .i64 (wrap64 ((wrap64 (t168 + t170)) - 1))) := by rw [ha]; exact putSel_on (e := (28, 39, .int .i64 (wrap64 ((wrap64 (t168 + t170)) - 1)))) 17 rfl rfl (hon 28 (by kernel_rfl)) rfl
      have e44 : a.tmps[44]? = some (.int .i64 (wrap64 (t168 + t170))) := by rw [ha]; exact putSel_on (e := (33, 44, .int .i64 (wrap64 (t168 + t170)))) 20 rfl rfl (hon 33 (by kernel_rfl)) rfl
      replace ha := Aside0.mk ha
      have BK163 := Aside0.mk (Q_BK163 (hoff 36 (by kernel_rfl)))
      have BK172 := Aside0.mk Q_BK172
      have HB := Aside0.mk Q_HB
      refine Kd.R_lit_step (Kd.int .i64) _ 3 ?hg (N := 45) ?hd (xs := ([t168, wrap64 ((wrap64 (t168 + t170)) - 1), wrap64 (t168 + t170), 5] : List Int)) (inner := [.int .i64 t168, .int .i64 (wrap64 ((wrap64 (t168 + t170)) - 1)), .int .i64 (wrap64 (t168 + t170)), .int .i64 5]) (ok := fun _ => True) (okp := fun _ => True) ?hr ?hp (fun _ hk => hk) trivial (Below.refl _ _) (Nat.le_refl _) (by simp) ?_; (case hd => rfl); (case hg => rfl); (case hr => first | (go_simp; done) | (go_simp; rfl)); (case hp => exact (Reps.one (show Kd.M (Kd.int .i64) _ _ _ t168 [.int .i64 t168] from rfl) (Reps.one (show Kd.M (Kd.int .i64) _ _ _ (wrap64 ((wrap64 (t168 + t170)) - 1)) [.int .i64 (wrap64 ((wrap64 (t168 + t170)) - 1))] from rfl) (Reps.one (show Kd.M (Kd.int .i64) _ _ _ (wrap64 (t168 + t170)) [.int .i64 (wrap64 (t168 + t170))] from rfl) (Reps.one (show Kd.M (Kd.int .i64) _ _ _ 5 [.int .i64 5] from rfl) (Reps.none _ _))))))
      intro v179 w15 ho16 hb hg_ hnew_
      clear hg_ hnew_
      (first | rw [← Ny178.out] at ho16 | (simp only [Int.reduceToNat] at ho16; rw [← Ny178.out] at ho16))
      have n0_ := Aside0.mk (Kd.R_lower ho16 (below_size (by repeat (first | (with_reducible first | exact HB.out | apply below_alloc | apply pw_below_drewN | apply below_drew1 | refine below_set ?_ GE163.out | refine below_set ?_ GE172.out) | exact HB.out))))
      have n1_ := Aside0.mk (blk_below (g := gb163) (o := .cells #[.int .i64 0, .int .i64 0, .int .i64 0, .int .i64 0] 31 (0, 0)) (by (with_reducible repeat (first | refine blk_drewN ?_ _ | refine blk_drew ?_ | refine blk_alloc ?_ _)); exact BK163.out) hb)
      have n3_ := Aside0.mk (blk_below (g := gb172) (o := .cells #[.int .i64 t167, .int .i64 t168, .int .i64 t169, .int .i64 t170] 31 (0, 0)) (by (with_reducible repeat (first | refine blk_drewN ?_ _ | refine blk_drew ?_ | refine blk_alloc ?_ _)); exact BK172.out) hb)
      have n4_ := Aside0.mk (below_step (by repeat (first | (with_reducible first | exact HB.out | apply below_alloc | apply pw_below_drewN | apply below_drew1 | refine below_set ?_ GE163.out | refine below_set ?_ GE172.out) | exact HB.out)) hb)
      have z_HI166 := fun (h0_ : b 19 = false) => (show IsS91 w w15 g166 t164 t171 from by first | exact (IsS91.below (by repeat (first | (with_reducible first | exact (Q_HI166 h0_) | apply IsS91.alloc | apply IsS91.drewN | apply IsS91.drew | apply IsS91.set_1 | refine IsS91.far ?_ NB166_163.out _ | refine IsS91.far ?_ NB166_172.out _) | exact (Q_HI166 h0_))) hb))
      have z_HO175 := fun (h0_ : b 18 = true) => (show Kd.R (Kd.int .i64) 3 w15 w.heap.size (fun _ => True) v174 y173 from by first | exact (Kd.R_elder' (by (with_reducible repeat (first | apply Kd.R_alloc | apply Kd.R_drewN | apply Kd.R_drew)); exact (Q_HO175 h0_)) (Kd.R_base ho16) hb) | exact Kd.R_mono (Kd.R_elder' (by (with_reducible repeat (first | apply Kd.R_alloc | apply Kd.R_drewN | apply Kd.R_drew)); exact (Q_HO175 h0_)) (Kd.R_base ho16) hb) (fun _ h_ => by first | trivial | exact h_ | exact h_.1))
      have z_HI166_e19 := fun (h0_ : b 19 = true) (h1_ : b 35 = false) => (show IsS91 w w15 g166 t164 t177 from by first | exact (IsS91.below (by repeat (first | (with_reducible first | exact (Q_HI166_e19 h0_ h1_) | apply IsS91.alloc | apply IsS91.drewN | apply IsS91.drew | apply IsS91.set_1 | refine IsS91.far ?_ NB166_163.out _ | refine IsS91.far ?_ NB166_172.out _) | exact (Q_HI166_e19 h0_ h1_))) hb))
      clear BK163
      clear BK172
      clear HB
      have HO180 := n0_
      have BK163 := n1_
      have BK172 := n3_
      have HB := n4_
      clear n0_ n1_ n3_ n4_
      clear hb ho16
      refine hK.out _ _ ⟨v174, v179, (by rw [ha.out]; exact putSel_upk 21 hb_ rfl rfl rfl), fun _ => (by (with_reducible repeat (first | refine blk_drewN ?_ _ | refine blk_drew ?_ | refine blk_alloc ?_ _)); exact BK163.out), (by (with_reducible repeat (first | refine blk_drewN ?_ _ | refine blk_drew ?_ | refine blk_alloc ?_ _)); exact BK172.out), z_HI166, (by repeat (first | (with_reducible first | exact HB.out | apply below_alloc | apply pw_below_drewN | apply below_drew1 | refine below_set ?_ GE163.out | refine below_set ?_ GE172.out) | exact HB.out)), z_HO175, z_HI166_e19, fun _ => (by (with_reducible repeat (first | apply Kd.R_alloc | apply Kd.R_drewN | apply Kd.R_drew)); exact HO180.out), fun h0_ => absurd ((hoff 35 (by kernel_rfl)).symm.trans h0_) (by decide), fun h0_ => absurd ((hoff 36 (by kernel_rfl)).symm.trans h0_) (by decide)⟩
    refine steps_cons ?_ ?_
    · rintro b a w' ⟨v174, v179, ha, Q_BK163, Q_BK172, Q_HI166, Q_HB, Q_HO175, Q_HI166_e19, Q_HO180, Q_HI166_e35, Q_BK163_e36⟩ hb_ hon hoff
      refine ⟨_, rfl, fun K hK => ?_⟩
      have e31 : a.tmps[31]? = some (.pointer (some ⟨g166, 0, none⟩)) := by rw [ha]; exact (putSel_off rfl).trans rfl
      have e45 : a.tmps[45]? = some (v179) := by rw [ha]; exact putSel_on (e := (34, 45, v179)) 21 rfl rfl (hon 34 (by kernel_rfl)) rfl
      replace ha := Aside0.mk ha
      have BK163 := Aside0.mk (Q_BK163 (hoff 36 (by kernel_rfl)))
      have BK172 := Aside0.mk Q_BK172
      have HB := Aside0.mk Q_HB
      have HO175 := Aside0.mk (Q_HO175 (hon 18 (by kernel_rfl)))
      have HI166 := Aside0.mk (Q_HI166_e19 (hon 19 (by kernel_rfl)) hb_)
      have HO180 := Aside0.mk (Q_HO180 (hon 34 (by kernel_rfl)))
      obtain ⟨Ao22, co22, eo22⟩ := Kd.R_slice HO180.out
      (first | subst eo22 | (injection eo22 with f1_ f2_ f3_; have f4_ := f1_.symm; have f5_ := f3_.symm; clear f1_ f2_ f3_; subst f4_; subst f5_))
      refine goes_ Try.func83 (by kernel_rfl) rfl #[.pointer (some ⟨g166, 0, none⟩), .slice Ao22 y178.length co22] (by rfl) rfl rfl (by first | (simp only [List.map_toArray, List.map_cons, List.map_nil, Act.eval, Array.getD_eq_getD_getElem?, Option.getD_some, e31, e45]; done) | (simp only [List.map_toArray, List.map_cons, List.map_nil, Act.eval, Array.getD_eq_getD_getElem?, Option.getD_some, e31, e45]; rfl)) ?_
      with_reducible refine (spec_reader_one.calls k g166 t164 t177 _ _ y178 t181 t182 w _ ?side1 ?side2 ?side3 ?side4 ?side5 A5.out).mono ?_
      (case side1 => repeat (first | (with_reducible first | exact HI166.out | apply IsS91.alloc | apply IsS91.drewN | apply IsS91.drew | apply IsS91.set_1 | refine IsS91.far ?_ NB166_163.out _ | refine IsS91.far ?_ NB166_172.out _) | exact HI166.out))
      (case side2 => repeat (first | (with_reducible first | exact HB.out | apply below_alloc | apply pw_below_drewN | apply below_drew1 | refine below_set ?_ (IsS91.ge HI166.out) | refine below_set ?_ GE163.out | refine below_set ?_ GE172.out) | exact HB.out))
      (case side3 => repeat (first | exact (Kd.R_reads' HO180.out).2.2 | (with_reducible refine Kd.C_alloc ?_ _) | (with_reducible refine Kd.C_drewN ?_ _) | (with_reducible refine Kd.C_drew ?_)))
      (case side4 => exact (Kd.R_reads' HO180.out).2.1)
      (case side5 => exact far_slice (IsS91.own_ne HI166.out HO180.out (by decide)))
      rintro e w23 ⟨rfl, hi, hb, hk⟩
      refine ⟨_, rfl, ?_⟩
      have n0_ := Aside0.mk (KeepBut.blk hk (g' := gb163) (o := .cells #[.int .i64 0, .int .i64 0, .int .i64 0, .int .i64 0] 31 (0, 0)) (by (with_reducible repeat (first | refine blk_drewN ?_ _ | refine blk_drew ?_ | refine blk_alloc ?_ _)); exact BK163.out) NB163_166.out (by simp))
      have n1_ := Aside0.mk (KeepBut.blk hk (g' := gb172) (o := .cells #[.int .i64 t167, .int .i64 t168, .int .i64 t169, .int .i64 t170] 31 (0, 0)) (by (with_reducible repeat (first | refine blk_drewN ?_ _ | refine blk_drew ?_ | refine blk_alloc ?_ _)); exact BK172.out) NB172_166.out (by simp))
      have n2_ := Aside0.mk (Kd.R_mono (Kd.R_keep (IsS91.apart (show IsS91 w _ g166 t164 t177 from by repeat (first | (with_reducible first | exact HI166.out | apply IsS91.alloc | apply IsS91.drewN | apply IsS91.drew | apply IsS91.set_1 | refine IsS91.far ?_ NB166_163.out _ | refine IsS91.far ?_ NB166_172.out _) | exact HI166.out)) (by (with_reducible repeat (first | apply Kd.R_alloc | apply Kd.R_drewN | apply Kd.R_drew)); exact HO175.out) (by decide)) hk (fun _ h => h.2)) (fun _ h => h.1))
      have n3_ := Aside0.mk (Kd.R_mono (Kd.R_keep (IsS91.apart (show IsS91 w _ g166 t164 t177 from by repeat (first | (with_reducible first | exact HI166.out | apply IsS91.alloc | apply IsS91.drewN | apply IsS91.drew | apply IsS91.set_1 | refine IsS91.far ?_ NB166_163.out _ | refine IsS91.far ?_ NB166_172.out _) | exact HI166.out)) (by (with_reducible repeat (first | apply Kd.R_alloc | apply Kd.R_drewN | apply Kd.R_drew)); exact HO180.out) (by decide)) hk (fun _ h => h.2)) (fun _ h => h.1))
      have n4_ := Aside0.mk (hb)
      have n5_ := Aside0.mk (hi)
      clear BK163
      clear BK172
      clear HO175
      clear HO180
      clear HB
      clear HI166
      have BK163 := n0_
      have BK172 := n1_
      have HO175 := n2_
      have HO180 := n3_
      have HB := n4_
      have HI166 := n5_
      clear n0_ n1_ n2_ n3_ n4_ n5_
      (try clear hb)
      (try clear hb2)
      (try clear hk)
      (try clear hi)
      refine hK.out _ _ ⟨v174, .slice Ao22 y178.length co22, (by rw [ha.out]; exact putSel_upk 22 hb_ rfl rfl rfl), fun _ => (by (with_reducible repeat (first | refine blk_drewN ?_ _ | refine blk_drew ?_ | refine blk_alloc ?_ _)); exact BK163.out), (by (with_reducible repeat (first | refine blk_drewN ?_ _ | refine blk_drew ?_ | refine blk_alloc ?_ _)); exact BK172.out), fun h0_ => absurd ((hon 19 (by kernel_rfl)).symm.trans h0_) (by decide), (by repeat (first | (with_reducible first | exact HB.out | apply below_alloc | apply pw_below_drewN | apply below_drew1 | refine below_set ?_ (IsS91.ge HI166.out) | refine below_set ?_ GE163.out | refine below_set ?_ GE172.out) | exact HB.out)), fun _ => (by (with_reducible repeat (first | apply Kd.R_alloc | apply Kd.R_drewN | apply Kd.R_drew)); exact HO175.out), fun _ h1_ => absurd ((up_self b 35).symm.trans h1_) (by decide), fun _ => (by (with_reducible repeat (first | apply Kd.R_alloc | apply Kd.R_drewN | apply Kd.R_drew)); exact HO180.out), fun _ => (by repeat (first | (with_reducible first | exact HI166.out | apply IsS91.alloc | apply IsS91.drewN | apply IsS91.drew | apply IsS91.set_1 | refine IsS91.far ?_ NB166_163.out _ | refine IsS91.far ?_ NB166_172.out _) | exact HI166.out)), fun h0_ => absurd ((hoff 36 (by kernel_rfl)).symm.trans h0_) (by decide)⟩
    refine steps_cons ?_ ?_
    · rintro b a w' ⟨v174, v179, ha, Q_BK163, Q_BK172, Q_HI166, Q_HB, Q_HO175, Q_HI166_e19, Q_HO180, Q_HI166_e35, Q_BK163_e36⟩ hb_ hon hoff
      refine ⟨_, rfl, fun K hK => ?_⟩
      have e2 : a.tmps[2]? = some (.pointer (some ⟨gb163, 0, none⟩)) := by rw [ha]; exact (putSel_off rfl).trans rfl
      have e11 : a.tmps[11]? = some (.agg #[.int .i64 t167, .int .i64 t168, .int .i64 t169, .int .i64 t170]) := by rw [ha]; exact putSel_on (e := (0, 11, .agg #[.int .i64 t167, .int .i64 t168, .int .i64 t169, .int .i64 t170])) 0 rfl rfl (hon 0 (by kernel_rfl)) rfl
      replace ha := Aside0.mk ha
      have BK163 := Aside0.mk (Q_BK163 hb_)
      have BK172 := Aside0.mk Q_BK172
      have HB := Aside0.mk Q_HB
      have HO175 := Aside0.mk (Q_HO175 (hon 18 (by kernel_rfl)))
      have HO180 := Aside0.mk (Q_HO180 (hon 34 (by kernel_rfl)))
      have HI166 := Aside0.mk (Q_HI166_e35 (hon 35 (by kernel_rfl)))
      have hs24 : w'.cell? ⟨gb163, 0, none⟩ = some (.int .i64 0) := (blk_cell BK163.out 0).trans rfl
      have hfs24 := blk_frozen BK163.out 0
      have hns24_1 := NB172_163.out
      have hms24_1 := NB163_172.out
      have hs25 : w'.cell? ⟨gb163, 1, none⟩ = some (.int .i64 0) := (blk_cell BK163.out 1).trans rfl
      have hfs25 := blk_frozen BK163.out 1
      have hns25_1 := NB172_163.out
      have hms25_1 := NB163_172.out
      have hs26 : w'.cell? ⟨gb163, 2, none⟩ = some (.int .i64 0) := (blk_cell BK163.out 2).trans rfl
      have hfs26 := blk_frozen BK163.out 2
      have hns26_1 := NB172_163.out
      have hms26_1 := NB163_172.out
      have hs27 : w'.cell? ⟨gb163, 3, none⟩ = some (.int .i64 0) := (blk_cell BK163.out 3).trans rfl
      have hfs27 := blk_frozen BK163.out 3
      have hns27_1 := NB172_163.out
      have hms27_1 := NB163_172.out
      refine skip_ (w1 := ?_) (by rfl) rfl ?_ ?_
      rotate_left
      · go_simp
        rfl
      refine hK.out _ _ ⟨v174, v179, (by rw [ha.out]; exact putSel_none (v := undef) rfl), fun h0_ => absurd ((up_self b 36).symm.trans h0_) (by decide), (by (with_reducible repeat (first | refine blk_drewN ?_ _ | refine blk_drew ?_ | refine blk_alloc ?_ _)); refine blk_far ?_ NB172_163.out _; (with_reducible repeat (first | refine blk_drewN ?_ _ | refine blk_drew ?_ | refine blk_alloc ?_ _)); refine blk_far ?_ NB172_163.out _; (with_reducible repeat (first | refine blk_drewN ?_ _ | refine blk_drew ?_ | refine blk_alloc ?_ _)); refine blk_far ?_ NB172_163.out _; (with_reducible repeat (first | refine blk_drewN ?_ _ | refine blk_drew ?_ | refine blk_alloc ?_ _)); refine blk_far ?_ NB172_163.out _; (with_reducible repeat (first | refine blk_drewN ?_ _ | refine blk_drew ?_ | refine blk_alloc ?_ _)); exact BK172.out), fun h0_ => absurd ((hon 19 (by kernel_rfl)).symm.trans h0_) (by decide), (by repeat (first | (with_reducible first | exact HB.out | apply below_alloc | apply pw_below_drewN | apply below_drew1 | refine below_set ?_ (IsS91.ge HI166.out) | refine below_set ?_ GE163.out | refine below_set ?_ GE172.out) | exact HB.out)), fun _ => (by (with_reducible repeat (first | apply Kd.R_alloc | apply Kd.R_drewN | apply Kd.R_drew)); exact Kd.R_mono (Kd.R_far (p := ⟨gb163, 3, none⟩) (Kd.R_far (p := ⟨gb163, 2, none⟩) (Kd.R_far (p := ⟨gb163, 1, none⟩) (Kd.R_far (p := ⟨gb163, 0, none⟩) (Kd.R_types HO175.out BK163.out (by decide)) (fun _ hk => hk.2) (.int .i64 t167)) (fun _ hk => hk.2) (.int .i64 t168)) (fun _ hk => hk.2) (.int .i64 t169)) (fun _ hk => hk.2) (.int .i64 t170)) (fun _ hk => hk.1)), fun _ h1_ => absurd ((hon 35 (by kernel_rfl)).symm.trans h1_) (by decide), fun _ => (by (with_reducible repeat (first | apply Kd.R_alloc | apply Kd.R_drewN | apply Kd.R_drew)); exact Kd.R_mono (Kd.R_far (p := ⟨gb163, 3, none⟩) (Kd.R_far (p := ⟨gb163, 2, none⟩) (Kd.R_far (p := ⟨gb163, 1, none⟩) (Kd.R_far (p := ⟨gb163, 0, none⟩) (Kd.R_types HO180.out BK163.out (by decide)) (fun _ hk => hk.2) (.int .i64 t167)) (fun _ hk => hk.2) (.int .i64 t168)) (fun _ hk => hk.2) (.int .i64 t169)) (fun _ hk => hk.2) (.int .i64 t170)) (fun _ hk => hk.1)), fun _ => (by repeat (first | (with_reducible first | exact HI166.out | apply IsS91.alloc | apply IsS91.drewN | apply IsS91.drew | apply IsS91.set_1 | refine IsS91.far ?_ NB166_163.out _ | refine IsS91.far ?_ NB166_172.out _) | exact HI166.out)), fun _ => (by (with_reducible repeat (first | refine blk_drewN ?_ _ | refine blk_drew ?_ | refine blk_alloc ?_ _)); refine blk_put (cs := #[.int .i64 t167, .int .i64 t168, .int .i64 t169, .int .i64 0]) ?_ 3 _ rfl; (with_reducible repeat (first | refine blk_drewN ?_ _ | refine blk_drew ?_ | refine blk_alloc ?_ _)); refine blk_put (cs := #[.int .i64 t167, .int .i64 t168, .int .i64 0, .int .i64 0]) ?_ 2 _ rfl; (with_reducible repeat (first | refine blk_drewN ?_ _ | refine blk_drew ?_ | refine blk_alloc ?_ _)); refine blk_put (cs := #[.int .i64 t167, .int .i64 0, .int .i64 0, .int .i64 0]) ?_ 1 _ rfl; (with_reducible repeat (first | refine blk_drewN ?_ _ | refine blk_drew ?_ | refine blk_alloc ?_ _)); refine blk_put (cs := #[.int .i64 0, .int .i64 0, .int .i64 0, .int .i64 0]) ?_ 0 _ rfl; (with_reducible repeat (first | refine blk_drewN ?_ _ | refine blk_drew ?_ | refine blk_alloc ?_ _)); exact BK163.out)⟩
    refine steps_cons ?_ ?_
    · rintro b a w' ⟨v174, v179, ha, Q_BK163, Q_BK172, Q_HI166, Q_HB, Q_HO175, Q_HI166_e19, Q_HO180, Q_HI166_e35, Q_BK163_e36⟩ hb_ hon hoff
      refine ⟨_, rfl, fun K hK => ?_⟩
      have e30 : a.tmps[30]? = some (.int .i64 t176) := by rw [ha]; exact putSel_on (e := (19, 30, .int .i64 t176)) 12 rfl rfl (hon 19 (by kernel_rfl)) rfl
      replace ha := Aside0.mk ha
      have BK172 := Aside0.mk Q_BK172
      have HB := Aside0.mk Q_HB
      have HO175 := Aside0.mk (Q_HO175 (hon 18 (by kernel_rfl)))
      have HO180 := Aside0.mk (Q_HO180 (hon 34 (by kernel_rfl)))
      have HI166 := Aside0.mk (Q_HI166_e35 (hon 35 (by kernel_rfl)))
      have BK163 := Aside0.mk (Q_BK163_e36 (hon 36 (by kernel_rfl)))
      refine value_ (w1 := w') (v := .int .i64 t176) (by rfl) rfl ?_ ?_
      · go_simp
        (try simp only [i64_w])
        try rfl
      refine hK.out _ _ ⟨v174, v179, (by rw [ha.out]; exact putSel_upk 23 hb_ rfl rfl rfl), fun h0_ => absurd ((hon 36 (by kernel_rfl)).symm.trans h0_) (by decide), Q_BK172, fun h0_ => absurd ((hon 19 (by kernel_rfl)).symm.trans h0_) (by decide), Q_HB, Q_HO175, fun _ h1_ => absurd ((hon 35 (by kernel_rfl)).symm.trans h1_) (by decide), Q_HO180, Q_HI166_e35, Q_BK163_e36⟩
    refine steps_cons ?_ ?_
    · rintro b a w' ⟨v174, v179, ha, Q_BK163, Q_BK172, Q_HI166, Q_HB, Q_HO175, Q_HI166_e19, Q_HO180, Q_HI166_e35, Q_BK163_e36⟩ hb_ hon hoff
      refine ⟨_, rfl, fun K hK => ?_⟩
      have e46 : a.tmps[46]? = some (.int .i64 t181) := by rw [ha]; exact putSel_on (e := (35, 46, .int .i64 t181)) 22 rfl rfl (hon 35 (by kernel_rfl)) rfl
      replace ha := Aside0.mk ha
      have BK172 := Aside0.mk Q_BK172
      have HB := Aside0.mk Q_HB
      have HO175 := Aside0.mk (Q_HO175 (hon 18 (by kernel_rfl)))
      have HO180 := Aside0.mk (Q_HO180 (hon 34 (by kernel_rfl)))
      have HI166 := Aside0.mk (Q_HI166_e35 (hon 35 (by kernel_rfl)))
      have BK163 := Aside0.mk (Q_BK163_e36 (hon 36 (by kernel_rfl)))
      refine value_ (w1 := w') (v := .int .i64 t181) (by rfl) rfl ?_ ?_
      · go_simp
        (try simp only [i64_w])
        try rfl
      refine hK.out _ _ ⟨v174, v179, (by rw [ha.out]; exact putSel_upk 24 hb_ rfl rfl rfl), fun h0_ => absurd ((hon 36 (by kernel_rfl)).symm.trans h0_) (by decide), Q_BK172, fun h0_ => absurd ((hon 19 (by kernel_rfl)).symm.trans h0_) (by decide), Q_HB, Q_HO175, fun _ h1_ => absurd ((hon 35 (by kernel_rfl)).symm.trans h1_) (by decide), Q_HO180, Q_HI166_e35, Q_BK163_e36⟩
    exact steps_nil
  rintro b a w27 hall ⟨v174, v179, ha, Q_BK163, Q_BK172, Q_HI166, Q_HB, Q_HO175, Q_HI166_e19, Q_HO180, Q_HI166_e35, Q_BK163_e36⟩
  clear BK163 BK172 HB HI166
  have hb0_ := hall 0 (by kernel_rfl)
  have hb3_ := hall 3 (by kernel_rfl)
  have hb5_ := hall 5 (by kernel_rfl)
  have hb7_ := hall 7 (by kernel_rfl)
  have hb8_ := hall 8 (by kernel_rfl)
  have hb10_ := hall 10 (by kernel_rfl)
  have hb12_ := hall 12 (by kernel_rfl)
  have hb13_ := hall 13 (by kernel_rfl)
  have hb14_ := hall 14 (by kernel_rfl)
  have hb16_ := hall 16 (by kernel_rfl)
  have hb17_ := hall 17 (by kernel_rfl)
  have hb18_ := hall 18 (by kernel_rfl)
  have hb19_ := hall 19 (by kernel_rfl)
  have hb22_ := hall 22 (by kernel_rfl)
  have hb24_ := hall 24 (by kernel_rfl)
  have hb26_ := hall 26 (by kernel_rfl)
  have hb27_ := hall 27 (by kernel_rfl)
  have hb28_ := hall 28 (by kernel_rfl)
  have hb30_ := hall 30 (by kernel_rfl)
  have hb32_ := hall 32 (by kernel_rfl)
  have hb33_ := hall 33 (by kernel_rfl)
  have hb34_ := hall 34 (by kernel_rfl)
  have hb35_ := hall 35 (by kernel_rfl)
  have hb36_ := hall 36 (by kernel_rfl)
  have hb37_ := hall 37 (by kernel_rfl)
  have hb38_ := hall 38 (by kernel_rfl)
  subst ha
  simp only [putSel, hb0_, hb3_, hb5_, hb7_, hb8_, hb10_, hb12_, hb13_, hb14_, hb16_, hb17_, hb18_, hb19_, hb22_, hb24_, hb26_, hb27_, hb28_, hb30_, hb32_, hb33_, hb34_, hb35_, hb36_, hb37_, hb38_, if_true, Act.put, List.setIfInBounds_toArray, List.set_cons_zero, List.set_cons_succ]
  clear Q_BK163
  have BK172 := Aside0.mk Q_BK172
  clear Q_BK172
  clear Q_HI166
  have HB := Aside0.mk Q_HB
  clear Q_HB
  have HO175 := Aside0.mk (Q_HO175 hb18_)
  clear Q_HO175
  clear Q_HI166_e19
  have HO180 := Aside0.mk (Q_HO180 hb34_)
  clear Q_HO180
  have HI166 := Aside0.mk (Q_HI166_e35 hb35_)
  clear Q_HI166_e35
  have BK163 := Aside0.mk (Q_BK163_e36 hb36_)
  clear Q_BK163_e36
  clear hall hb0_ hb3_ hb5_ hb7_ hb8_ hb10_ hb12_ hb13_ hb14_ hb16_ hb17_ hb18_ hb19_ hb22_ hb24_ hb26_ hb27_ hb28_ hb30_ hb32_ hb33_ hb34_ hb35_ hb36_ hb37_ hb38_
  try go_wp2
  refine bodyPost_ret (results_ctt rfl _ _ gb163 31 #[.int .i64 t167, .int .i64 t168, .int .i64 t169, .int .i64 t170] (0, 0) _ rfl (by (with_reducible repeat (first | refine blk_drewN ?_ _ | refine blk_drew ?_ | refine blk_alloc ?_ _)); exact BK163.out) Try.underlying31 rfl (by kernel_rfl)) rfl ?_
  exact ⟨by first | rfl | (simp [errW_none, errW_some] <;> rfl) | (simp [*, errW_none, errW_some] <;> rfl), by repeat (first | (with_reducible first | exact HB.out | apply below_alloc | apply pw_below_drewN | apply below_drew1 | refine below_set ?_ (IsS91.ge HI166.out) | refine below_set ?_ GE163.out | refine below_set ?_ GE172.out) | exact HB.out)⟩

/-! ### impl_within: function 59 -/
def impl_within.f (a0 : Int) (a1 : Int) (a2 : Int) : Option (Bool) := if a0 ≥ a1 then (some (decide (a0 ≤ a2))) else (some false)
set_option maxHeartbeats 8000000 in
set_option maxRecDepth 100000 in
theorem impl_within.calls (a0 : Int) (a1 : Int) (a2 : Int) (r : Bool) (w : World) (h : impl_within.f a0 a1 a2 = some r) :
    Calls Try.prog 59 #[.int .i64 a0, .int .i64 a1, .int .i64 a2] w fun e w' => e = .returned (.bool r) ∧ Drawn0 w w' := by
  have H : (if a0 ≥ a1 then (some (decide (a0 ≤ a2))) else (some false)) = some r := h
  clear h
  by_cases c4 : a0 ≥ a1
  · rw [if_pos c4] at H
    have c4b0 : decide (a1 ≤ a0) = true := decide_eq_true c4
    clear c4
    obtain rfl := Option.some.inj H
    go_enter Try.func59, Try.ntmps59
    go_wp2
    go_ret
    exact ⟨by first | rfl | (simp; done) | (simp [*]; done), by repeat (first | exact Drawn0.refl _ | apply Drawn0.step)⟩
  · rw [if_neg c4] at H
    have c4b0 : decide (a1 ≤ a0) = false := decide_eq_false c4
    clear c4
    obtain rfl := Option.some.inj H
    go_enter Try.func59, Try.ntmps59
    go_wp2
    go_ret
    exact ⟨by first | rfl | (simp; done) | (simp [*]; done), by repeat (first | exact Drawn0.refl _ | apply Drawn0.step)⟩

/-! ### impl_ValidRect: function 51 -/
def impl_ValidRect.f (a0_0 : Int) (a0_1 : Int) (a0_2 : Int) (a0_3 : Int) : Option (Bool) := (impl_within.f a0_2 0 400).bind fun t184 => (if t184 = true then ((impl_within.f a0_3 0 400).bind fun t185 => (if t185 = true then ((impl_within.f a0_0 (-1000) (wrap64 (1000 - a0_2))).bind fun t186 => (if t186 = true then ((impl_within.f a0_1 (-1000) (wrap64 (1000 - a0_3))).bind fun t187 => (some t187)) else (some false))) else (some false))) else (some false))
set_option maxHeartbeats 8000000 in
set_option maxRecDepth 100000 in
theorem impl_ValidRect.calls (a0_0 : Int) (a0_1 : Int) (a0_2 : Int) (a0_3 : Int) (r : Bool) (w : World) (h : impl_ValidRect.f a0_0 a0_1 a0_2 a0_3 = some r) :
    Calls Try.prog 51 #[.agg #[.int .i64 a0_0, .int .i64 a0_1, .int .i64 a0_2, .int .i64 a0_3]] w fun e w' => e = .returned (.bool r) ∧ Below w.heap.size w w' := by
  have hu31 := Try.underlying31
  have HB := Aside0.mk (Below.refl w.heap.size w)
  have H : ((impl_within.f a0_2 0 400).bind fun t184 => (if t184 = true then ((impl_within.f a0_3 0 400).bind fun t185 => (if t185 = true then ((impl_within.f a0_0 (-1000) (wrap64 (1000 - a0_2))).bind fun t186 => (if t186 = true then ((impl_within.f a0_1 (-1000) (wrap64 (1000 - a0_3))).bind fun t187 => (some t187)) else (some false))) else (some false))) else (some false))) = some r := h
  clear h
  replace H := Option.bind_eq_some_iff.mp H
  obtain ⟨t184, A20, H⟩ := H
  replace H : (if t184 = true then ((impl_within.f a0_3 0 400).bind fun t185 => (if t185 = true then ((impl_within.f a0_0 (-1000) (wrap64 (1000 - a0_2))).bind fun t186 => (if t186 = true then ((impl_within.f a0_1 (-1000) (wrap64 (1000 - a0_3))).bind fun t187 => (some t187)) else (some false))) else (some false))) else (some false)) = some r := H
  have A2 := Aside0.mk A20
  clear A20
  by_cases c3 : t184 = true
  · subst c3
    have H1 : ((impl_within.f a0_3 0 400).bind fun t185 => (if t185 = true then ((impl_within.f a0_0 (-1000) (wrap64 (1000 - a0_2))).bind fun t186 => (if t186 = true then ((impl_within.f a0_1 (-1000) (wrap64 (1000 - a0_3))).bind fun t187 => (some t187)) else (some false))) else (some false))) = some r := by rw [if_pos rfl] at H; exact H
    clear H
    have H := H1
    clear H1
    replace H := Option.bind_eq_some_iff.mp H
    obtain ⟨t185, A40, H⟩ := H
    replace H : (if t185 = true then ((impl_within.f a0_0 (-1000) (wrap64 (1000 - a0_2))).bind fun t186 => (if t186 = true then ((impl_within.f a0_1 (-1000) (wrap64 (1000 - a0_3))).bind fun t187 => (some t187)) else (some false))) else (some false)) = some r := H
    have A4 := Aside0.mk A40
    clear A40
    by_cases c5 : t185 = true
    · subst c5
      have H1 : ((impl_within.f a0_0 (-1000) (wrap64 (1000 - a0_2))).bind fun t186 => (if t186 = true then ((impl_within.f a0_1 (-1000) (wrap64 (1000 - a0_3))).bind fun t187 => (some t187)) else (some false))) = some r := by rw [if_pos rfl] at H; exact H
      clear H
      have H := H1
      clear H1
      replace H := Option.bind_eq_some_iff.mp H
      obtain ⟨t186, A60, H⟩ := H
      replace H : (if t186 = true then ((impl_within.f a0_1 (-1000) (wrap64 (1000 - a0_3))).bind fun t187 => (some t187)) else (some false)) = some r := H
      have A6 := Aside0.mk A60
      clear A60
      by_cases c7 : t186 = true
      · subst c7
        have H1 : ((impl_within.f a0_1 (-1000) (wrap64 (1000 - a0_3))).bind fun t187 => (some t187)) = some r := by rw [if_pos rfl] at H; exact H
        clear H
        have H := H1
        clear H1
        replace H := Option.bind_eq_some_iff.mp H
        obtain ⟨t187, A80, H⟩ := H
        replace H : (some t187) = some r := H
        have A8 := Aside0.mk A80
        clear A80
        obtain rfl := Option.some.inj H
        go_enter Try.func51, Try.ntmps51
        go_wp2_with (first | ((with_reducible refine gate_dst (N := 1) rfl ?_); refine box_event ?hg (N := 1) ?hd (cs := #[.int .i64 a0_0, .int .i64 a0_1, .int .i64 a0_2, .int .i64 a0_3]) (t := 31) ?hr ?_; (case hd => rfl); (case hg => rfl); (case hr => first | (go_simp; done) | (go_simp; rfl)); intro gb183 hg w9 hbox hb; have n0_ := Aside0.mk (below_step (by repeat (first | (with_reducible first | exact HB.out | apply below_alloc | apply pw_below_drewN | apply below_drew1) | exact HB.out)) hb); have n1_ := Aside0.mk (hbox); have n2_ := Aside0.mk ((by rw [hg]; exact (below_size (by repeat (first | (with_reducible first | exact HB.out | apply below_alloc | apply pw_below_drewN | apply below_drew1) | exact HB.out))) : w.heap.size ≤ gb183)); have n3_ := Aside0.mk ((by rw [hg]; exact (below_size (by repeat (first | (with_reducible first | exact HB.out | apply below_alloc | apply pw_below_drewN | apply below_drew1) | exact HB.out))) : w.heap.size ≤ gb183)); clear HB; have HB := n0_; have BK183 := n1_; have GW183 := n2_; have GE183 := n3_; clear n0_ n1_ n2_ n3_; clear hb hbox hg; have hcz10_0 : w9.cell? ⟨gb183, 0, none⟩ = some (.int .i64 a0_0) := (blk_cell BK183.out 0).trans rfl; have hcz10_1 : w9.cell? ⟨gb183, 1, none⟩ = some (.int .i64 a0_1) := (blk_cell BK183.out 1).trans rfl; have hcz10_2 : w9.cell? ⟨gb183, 2, none⟩ = some (.int .i64 a0_2) := (blk_cell BK183.out 2).trans rfl; have hcz10_3 : w9.cell? ⟨gb183, 3, none⟩ = some (.int .i64 a0_3) := (blk_cell BK183.out 3).trans rfl; have hfz10_0 := blk_frozen BK183.out 0; have hfz10_1 := blk_frozen BK183.out 1; have hfz10_2 := blk_frozen BK183.out 2; have hfz10_3 := blk_frozen BK183.out 3) | ((with_reducible refine gate_callee (f := 59) rfl ?_); refine goesL_ (some 5) rfl rfl Try.func59 (by kernel_rfl) rfl #[.int .i64 a0_2, .int .i64 0, .int .i64 400] rfl (by (try simp only [List.map_toArray, List.map_cons, List.map_nil]); first | done | rfl | (simp only [List.length_drop, List.length_take]; rfl)) ?_; (with_reducible refine (impl_within.calls a0_2 0 400 true _ A2.out).mono ?_); rintro e w' ⟨rfl, ⟨nd, rfl⟩⟩; refine ⟨_, rfl, ?_⟩) | (go_at_call 59; (with_reducible refine (impl_within.calls a0_3 0 400 true _ A4.out).mono ?_); rintro e w' ⟨rfl, ⟨nd, rfl⟩⟩) | (go_at_call 59; (with_reducible refine (impl_within.calls a0_0 (-1000) (wrap64 (1000 - a0_2)) true _ A6.out).mono ?_); rintro e w' ⟨rfl, ⟨nd, rfl⟩⟩) | (go_at_call 59; (with_reducible refine (impl_within.calls a0_1 (-1000) (wrap64 (1000 - a0_3)) t187 _ A8.out).mono ?_); rintro e w' ⟨rfl, ⟨nd, rfl⟩⟩))
        go_ret
        exact ⟨by first | rfl | (simp [errW_none, errW_some] <;> rfl) | (simp [*, errW_none, errW_some] <;> rfl), by repeat (first | (with_reducible first | exact HB.out | apply below_alloc | apply pw_below_drewN | apply below_drew1 | refine below_set ?_ GE183.out) | exact HB.out)⟩
      · replace c7 := Bool.eq_false_iff.mpr c7
        subst c7
        have H1 : (some false) = some r := by rw [if_neg (show ¬ (false = true) by decide)] at H; exact H
        clear H
        have H := H1
        clear H1
        obtain rfl := Option.some.inj H
        go_enter Try.func51, Try.ntmps51
        go_wp2_with (first | ((with_reducible refine gate_dst (N := 1) rfl ?_); refine box_event ?hg (N := 1) ?hd (cs := #[.int .i64 a0_0, .int .i64 a0_1, .int .i64 a0_2, .int .i64 a0_3]) (t := 31) ?hr ?_; (case hd => rfl); (case hg => rfl); (case hr => first | (go_simp; done) | (go_simp; rfl)); intro gb183 hg w11 hbox hb; have n0_ := Aside0.mk (below_step (by repeat (first | (with_reducible first | exact HB.out | apply below_alloc | apply pw_below_drewN | apply below_drew1) | exact HB.out)) hb); have n1_ := Aside0.mk (hbox); have n2_ := Aside0.mk ((by rw [hg]; exact (below_size (by repeat (first | (with_reducible first | exact HB.out | apply below_alloc | apply pw_below_drewN | apply below_drew1) | exact HB.out))) : w.heap.size ≤ gb183)); have n3_ := Aside0.mk ((by rw [hg]; exact (below_size (by repeat (first | (with_reducible first | exact HB.out | apply below_alloc | apply pw_below_drewN | apply below_drew1) | exact HB.out))) : w.heap.size ≤ gb183)); clear HB; have HB := n0_; have BK183 := n1_; have GW183 := n2_; have GE183 := n3_; clear n0_ n1_ n2_ n3_; clear hb hbox hg; have hcz12_0 : w11.cell? ⟨gb183, 0, none⟩ = some (.int .i64 a0_0) := (blk_cell BK183.out 0).trans rfl; have hcz12_1 : w11.cell? ⟨gb183, 1, none⟩ = some (.int .i64 a0_1) := (blk_cell BK183.out 1).trans rfl; have hcz12_2 : w11.cell? ⟨gb183, 2, none⟩ = some (.int .i64 a0_2) := (blk_cell BK183.out 2).trans rfl; have hcz12_3 : w11.cell? ⟨gb183, 3, none⟩ = some (.int .i64 a0_3) := (blk_cell BK183.out 3).trans rfl; have hfz12_0 := blk_frozen BK183.out 0; have hfz12_1 := blk_frozen BK183.out 1; have hfz12_2 := blk_frozen BK183.out 2; have hfz12_3 := blk_frozen BK183.out 3) | ((with_reducible refine gate_callee (f := 59) rfl ?_); refine goesL_ (some 5) rfl rfl Try.func59 (by kernel_rfl) rfl #[.int .i64 a0_2, .int .i64 0, .int .i64 400] rfl (by (try simp only [List.map_toArray, List.map_cons, List.map_nil]); first | done | rfl | (simp only [List.length_drop, List.length_take]; rfl)) ?_; (with_reducible refine (impl_within.calls a0_2 0 400 true _ A2.out).mono ?_); rintro e w' ⟨rfl, ⟨nd, rfl⟩⟩; refine ⟨_, rfl, ?_⟩) | (go_at_call 59; (with_reducible refine (impl_within.calls a0_3 0 400 true _ A4.out).mono ?_); rintro e w' ⟨rfl, ⟨nd, rfl⟩⟩) | (go_at_call 59; (with_reducible refine (impl_within.calls a0_0 (-1000) (wrap64 (1000 - a0_2)) false _ A6.out).mono ?_); rintro e w' ⟨rfl, ⟨nd, rfl⟩⟩))
        go_ret
        exact ⟨by first | rfl | (simp [errW_none, errW_some] <;> rfl) | (simp [*, errW_none, errW_some] <;> rfl), by repeat (first | (with_reducible first | exact HB.out | apply below_alloc | apply pw_below_drewN | apply below_drew1 | refine below_set ?_ GE183.out) | exact HB.out)⟩
    · replace c5 := Bool.eq_false_iff.mpr c5
      subst c5
      have H1 : (some false) = some r := by rw [if_neg (show ¬ (false = true) by decide)] at H; exact H
      clear H
      have H := H1
      clear H1
      obtain rfl := Option.some.inj H
      go_enter Try.func51, Try.ntmps51
      go_wp2_with (first | ((with_reducible refine gate_dst (N := 1) rfl ?_); refine box_event ?hg (N := 1) ?hd (cs := #[.int .i64 a0_0, .int .i64 a0_1, .int .i64 a0_2, .int .i64 a0_3]) (t := 31) ?hr ?_; (case hd => rfl); (case hg => rfl); (case hr => first | (go_simp; done) | (go_simp; rfl)); intro gb183 hg w13 hbox hb; have n0_ := Aside0.mk (below_step (by repeat (first | (with_reducible first | exact HB.out | apply below_alloc | apply pw_below_drewN | apply below_drew1) | exact HB.out)) hb); have n1_ := Aside0.mk (hbox); have n2_ := Aside0.mk ((by rw [hg]; exact (below_size (by repeat (first | (with_reducible first | exact HB.out | apply below_alloc | apply pw_below_drewN | apply below_drew1) | exact HB.out))) : w.heap.size ≤ gb183)); have n3_ := Aside0.mk ((by rw [hg]; exact (below_size (by repeat (first | (with_reducible first | exact HB.out | apply below_alloc | apply pw_below_drewN | apply below_drew1) | exact HB.out))) : w.heap.size ≤ gb183)); clear HB; have HB := n0_; have BK183 := n1_; have GW183 := n2_; have GE183 := n3_; clear n0_ n1_ n2_ n3_; clear hb hbox hg; have hcz14_0 : w13.cell? ⟨gb183, 0, none⟩ = some (.int .i64 a0_0) := (blk_cell BK183.out 0).trans rfl; have hcz14_1 : w13.cell? ⟨gb183, 1, none⟩ = some (.int .i64 a0_1) := (blk_cell BK183.out 1).trans rfl; have hcz14_2 : w13.cell? ⟨gb183, 2, none⟩ = some (.int .i64 a0_2) := (blk_cell BK183.out 2).trans rfl; have hcz14_3 : w13.cell? ⟨gb183, 3, none⟩ = some (.int .i64 a0_3) := (blk_cell BK183.out 3).trans rfl; have hfz14_0 := blk_frozen BK183.out 0; have hfz14_1 := blk_frozen BK183.out 1; have hfz14_2 := blk_frozen BK183.out 2; have hfz14_3 := blk_frozen BK183.out 3) | ((with_reducible refine gate_callee (f := 59) rfl ?_); refine goesL_ (some 5) rfl rfl Try.func59 (by kernel_rfl) rfl #[.int .i64 a0_2, .int .i64 0, .int .i64 400] rfl (by (try simp only [List.map_toArray, List.map_cons, List.map_nil]); first | done | rfl | (simp only [List.length_drop, List.length_take]; rfl)) ?_; (with_reducible refine (impl_within.calls a0_2 0 400 true _ A2.out).mono ?_); rintro e w' ⟨rfl, ⟨nd, rfl⟩⟩; refine ⟨_, rfl, ?_⟩) | (go_at_call 59; (with_reducible refine (impl_within.calls a0_3 0 400 false _ A4.out).mono ?_); rintro e w' ⟨rfl, ⟨nd, rfl⟩⟩))
      go_ret
      exact ⟨by first | rfl | (simp [errW_none, errW_some] <;> rfl) | (simp [*, errW_none, errW_some] <;> rfl), by repeat (first | (with_reducible first | exact HB.out | apply below_alloc | apply pw_below_drewN | apply below_drew1 | refine below_set ?_ GE183.out) | exact HB.out)⟩
  · replace c3 := Bool.eq_false_iff.mpr c3
    subst c3
    have H1 : (some false) = some r := by rw [if_neg (show ¬ (false = true) by decide)] at H; exact H
    clear H
    have H := H1
    clear H1
    obtain rfl := Option.some.inj H
    go_enter Try.func51, Try.ntmps51
    go_wp2_with (first | ((with_reducible refine gate_dst (N := 1) rfl ?_); refine box_event ?hg (N := 1) ?hd (cs := #[.int .i64 a0_0, .int .i64 a0_1, .int .i64 a0_2, .int .i64 a0_3]) (t := 31) ?hr ?_; (case hd => rfl); (case hg => rfl); (case hr => first | (go_simp; done) | (go_simp; rfl)); intro gb183 hg w15 hbox hb; have n0_ := Aside0.mk (below_step (by repeat (first | (with_reducible first | exact HB.out | apply below_alloc | apply pw_below_drewN | apply below_drew1) | exact HB.out)) hb); have n1_ := Aside0.mk (hbox); have n2_ := Aside0.mk ((by rw [hg]; exact (below_size (by repeat (first | (with_reducible first | exact HB.out | apply below_alloc | apply pw_below_drewN | apply below_drew1) | exact HB.out))) : w.heap.size ≤ gb183)); have n3_ := Aside0.mk ((by rw [hg]; exact (below_size (by repeat (first | (with_reducible first | exact HB.out | apply below_alloc | apply pw_below_drewN | apply below_drew1) | exact HB.out))) : w.heap.size ≤ gb183)); clear HB; have HB := n0_; have BK183 := n1_; have GW183 := n2_; have GE183 := n3_; clear n0_ n1_ n2_ n3_; clear hb hbox hg; have hcz16_0 : w15.cell? ⟨gb183, 0, none⟩ = some (.int .i64 a0_0) := (blk_cell BK183.out 0).trans rfl; have hcz16_1 : w15.cell? ⟨gb183, 1, none⟩ = some (.int .i64 a0_1) := (blk_cell BK183.out 1).trans rfl; have hcz16_2 : w15.cell? ⟨gb183, 2, none⟩ = some (.int .i64 a0_2) := (blk_cell BK183.out 2).trans rfl; have hcz16_3 : w15.cell? ⟨gb183, 3, none⟩ = some (.int .i64 a0_3) := (blk_cell BK183.out 3).trans rfl; have hfz16_0 := blk_frozen BK183.out 0; have hfz16_1 := blk_frozen BK183.out 1; have hfz16_2 := blk_frozen BK183.out 2; have hfz16_3 := blk_frozen BK183.out 3) | ((with_reducible refine gate_callee (f := 59) rfl ?_); refine goesL_ (some 5) rfl rfl Try.func59 (by kernel_rfl) rfl #[.int .i64 a0_2, .int .i64 0, .int .i64 400] rfl (by (try simp only [List.map_toArray, List.map_cons, List.map_nil]); first | done | rfl | (simp only [List.length_drop, List.length_take]; rfl)) ?_; (with_reducible refine (impl_within.calls a0_2 0 400 false _ A2.out).mono ?_); rintro e w' ⟨rfl, ⟨nd, rfl⟩⟩; refine ⟨_, rfl, ?_⟩))
    go_ret
    exact ⟨by first | rfl | (simp [errW_none, errW_some] <;> rfl) | (simp [*, errW_none, errW_some] <;> rfl), by repeat (first | (with_reducible first | exact HB.out | apply below_alloc | apply pw_below_drewN | apply below_drew1 | refine below_set ?_ GE183.out) | exact HB.out)⟩

end Go.Proofs.Ytkecldjkakkgoaa.PFnHasPoint
