/- The statement FnExactExpandShare: for every input that the row speaks of the law returns true and every argument reads behind the call as it read before; no condition is added. -/
import Derived.Deep.Slices
import Derived.Test.YtffihkpnampboaaRows
import Derived.Test.YtffihkpnampboaaQFnExactExpandSharex4
import Derived.Test.YtffihkpnampboaaOpen
import Derived.Test.YtffihkpnampboaaPureFnExactExpandShare
import Derived.WalkKit
import Derived.ProofKit
import Derived.OpenShut
import Derived.ShutString
import Derived.ChangeOld
import Derived.Below
import Derived.SizedLaws
import Derived.Carry
namespace Go.Proofs.Ytffihkpnampboaa.fnExactExpandShare
open Go.ChangeShapes Go.WideShapes Go.ChangeAt Go.RowKit
open Go.ChangeMaps (open_string shut_string)
set_option linter.unusedVariables false
theorem own : ownKnob Try.prog.godebug = none := by kernel_rfl
theorem laidOut : laidOutB Try.prog = true := by kernel_rfl
theorem list_9 {α : Type} {l : List α} (h : l.length = 9) : ∃ c0 c1 c2 c3 c4 c5 c6 c7 c8, l = [c0, c1, c2, c3, c4, c5, c6, c7, c8] := by
  match l, h with
  | [c0, c1, c2, c3, c4, c5, c6, c7, c8], _ => exact ⟨c0, c1, c2, c3, c4, c5, c6, c7, c8, rfl⟩
theorem elem_56 {H : Type} {enc : TypeId × Value → H} {w : World} {base : Nat} {spare : Nat → Bool} {held : Bool} {n : Nat} {cs : List Value} {y : DataW H × List MemPlace} (h : DataW.trod enc Try.prog w base spare held n 56 cs = some y) : ∃ x_ : PFnExactExpandShare.S56, cs = [.int .i64 x_.f0, .int .i64 x_.f1, .int .i64 x_.f2, .bool x_.f3, .bool x_.f4, .bool x_.f5, .int .i64 x_.f6, .int .i64 x_.f7, .int .i64 x_.f8] := by
  obtain ⟨xs, m, _, _, hlen, hxl, hf⟩ := DataW.trod_struct Try.underlying56 h
  have hC : Try.prog.cellsOf 56 = 9 := by kernel_rfl
  rw [hC] at hlen
  obtain ⟨c0, c1, c2, c3, c4, c5, c6, c7, c8, rfl⟩ := list_9 hlen
  have hl : xs.length = 9 := hxl
  have h3_ : Try.prog.cellsOf 3 = 1 := by kernel_rfl
  have h4_ : Try.prog.cellsOf 4 = 1 := by kernel_rfl
  have g0 : DataW.trod enc Try.prog w base spare held m 3 [c0] = xs[0]? := by
    have q_ := hf 0 _ rfl
    change DataW.trod enc Try.prog w base spare held m 3 (([c0, c1, c2, c3, c4, c5, c6, c7, c8].drop 0).take (Try.prog.cellsOf 3)) = xs[0]? at q_
    rw [h3_] at q_
    exact q_
  rw [List.getElem?_eq_getElem (by omega)] at g0
  have g1 : DataW.trod enc Try.prog w base spare held m 3 [c1] = xs[1]? := by
    have q_ := hf 1 _ rfl
    change DataW.trod enc Try.prog w base spare held m 3 (([c0, c1, c2, c3, c4, c5, c6, c7, c8].drop 1).take (Try.prog.cellsOf 3)) = xs[1]? at q_
    rw [h3_] at q_
    exact q_
  rw [List.getElem?_eq_getElem (by omega)] at g1
  have g2 : DataW.trod enc Try.prog w base spare held m 3 [c2] = xs[2]? := by
    have q_ := hf 2 _ rfl
    change DataW.trod enc Try.prog w base spare held m 3 (([c0, c1, c2, c3, c4, c5, c6, c7, c8].drop 2).take (Try.prog.cellsOf 3)) = xs[2]? at q_
    rw [h3_] at q_
    exact q_
  rw [List.getElem?_eq_getElem (by omega)] at g2
  have g3 : DataW.trod enc Try.prog w base spare held m 4 [c3] = xs[3]? := by
    have q_ := hf 3 _ rfl
    change DataW.trod enc Try.prog w base spare held m 4 (([c0, c1, c2, c3, c4, c5, c6, c7, c8].drop 3).take (Try.prog.cellsOf 4)) = xs[3]? at q_
    rw [h4_] at q_
    exact q_
  rw [List.getElem?_eq_getElem (by omega)] at g3
  have g4 : DataW.trod enc Try.prog w base spare held m 4 [c4] = xs[4]? := by
    have q_ := hf 4 _ rfl
    change DataW.trod enc Try.prog w base spare held m 4 (([c0, c1, c2, c3, c4, c5, c6, c7, c8].drop 4).take (Try.prog.cellsOf 4)) = xs[4]? at q_
    rw [h4_] at q_
    exact q_
  rw [List.getElem?_eq_getElem (by omega)] at g4
  have g5 : DataW.trod enc Try.prog w base spare held m 4 [c5] = xs[5]? := by
    have q_ := hf 5 _ rfl
    change DataW.trod enc Try.prog w base spare held m 4 (([c0, c1, c2, c3, c4, c5, c6, c7, c8].drop 5).take (Try.prog.cellsOf 4)) = xs[5]? at q_
    rw [h4_] at q_
    exact q_
  rw [List.getElem?_eq_getElem (by omega)] at g5
  have g6 : DataW.trod enc Try.prog w base spare held m 3 [c6] = xs[6]? := by
    have q_ := hf 6 _ rfl
    change DataW.trod enc Try.prog w base spare held m 3 (([c0, c1, c2, c3, c4, c5, c6, c7, c8].drop 6).take (Try.prog.cellsOf 3)) = xs[6]? at q_
    rw [h3_] at q_
    exact q_
  rw [List.getElem?_eq_getElem (by omega)] at g6
  have g7 : DataW.trod enc Try.prog w base spare held m 3 [c7] = xs[7]? := by
    have q_ := hf 7 _ rfl
    change DataW.trod enc Try.prog w base spare held m 3 (([c0, c1, c2, c3, c4, c5, c6, c7, c8].drop 7).take (Try.prog.cellsOf 3)) = xs[7]? at q_
    rw [h3_] at q_
    exact q_
  rw [List.getElem?_eq_getElem (by omega)] at g7
  have g8 : DataW.trod enc Try.prog w base spare held m 3 [c8] = xs[8]? := by
    have q_ := hf 8 _ rfl
    change DataW.trod enc Try.prog w base spare held m 3 (([c0, c1, c2, c3, c4, c5, c6, c7, c8].drop 8).take (Try.prog.cellsOf 3)) = xs[8]? at q_
    rw [h3_] at q_
    exact q_
  rw [List.getElem?_eq_getElem (by omega)] at g8
  obtain ⟨x0, e0, -, -⟩ := DataW.trod_int Try.underlying3 g0
  obtain rfl := (List.cons.inj e0).1
  obtain ⟨x1, e1, -, -⟩ := DataW.trod_int Try.underlying3 g1
  obtain rfl := (List.cons.inj e1).1
  obtain ⟨x2, e2, -, -⟩ := DataW.trod_int Try.underlying3 g2
  obtain rfl := (List.cons.inj e2).1
  obtain ⟨x3, e3, -⟩ := DataW.trod_bool Try.underlying4 g3
  obtain rfl := (List.cons.inj e3).1
  obtain ⟨x4, e4, -⟩ := DataW.trod_bool Try.underlying4 g4
  obtain rfl := (List.cons.inj e4).1
  obtain ⟨x5, e5, -⟩ := DataW.trod_bool Try.underlying4 g5
  obtain rfl := (List.cons.inj e5).1
  obtain ⟨x6, e6, -, -⟩ := DataW.trod_int Try.underlying3 g6
  obtain rfl := (List.cons.inj e6).1
  obtain ⟨x7, e7, -, -⟩ := DataW.trod_int Try.underlying3 g7
  obtain rfl := (List.cons.inj e7).1
  obtain ⟨x8, e8, -, -⟩ := DataW.trod_int Try.underlying3 g8
  obtain rfl := (List.cons.inj e8).1
  exact ⟨⟨x0, x1, x2, x3, x4, x5, x6, x7, x8⟩, rfl⟩
theorem row_31 {H : Type} {enc : TypeId × Value → H} {W : World} {a : Option Addr} {len cap : Nat} {d : DataW H} {p : List MemPlace} (h : DataW.Trod enc Try.prog W 0 (fun _ => true) true 31 (.slice a len cap) d p) : ∃ l : List PFnExactExpandShare.S56, len = l.length ∧ Go.Proofs.YtffihkpnampboaaW.PrintWords.Kd.C PFnExactExpandShare.k56 W a l.length l ∧ l.length ≤ maxLen ∧ l.length ≤ cap := by
  obtain ⟨fuel, hf⟩ := h
  rcases Go.Deep.open_slice Try.underlying31 hf with ⟨hcs, _⟩ | ⟨x, n, c, m, fu, D, Pl, hcs, _, hl, hm, hmm, _, hx⟩
  · simp [Value.cells] at hcs
    obtain ⟨rfl, rfl, rfl⟩ := hcs
    exact ⟨[], rfl, Go.Proofs.YtffihkpnampboaaW.PrintWords.Kd.C_nil PFnExactExpandShare.k56 W, Nat.zero_le _, Nat.zero_le _⟩
  · simp [Value.cells] at hcs
    obtain ⟨rfl, rfl, rfl⟩ := hcs
    have hm' : m = cap := by simpa using hmm
    have hC : Try.prog.cellsOf 56 = 9 := by kernel_rfl
    have each : ∀ i, i < cap → ∃ x_ : PFnExactExpandShare.S56, ∀ j u, ([.int .i64 x_.f0, .int .i64 x_.f1, .int .i64 x_.f2, .bool x_.f3, .bool x_.f4, .bool x_.f5, .int .i64 x_.f6, .int .i64 x_.f7, .int .i64 x_.f8] : List Value)[j]? = some u → W.cell? (x.add (i * 9 + j)) = some u := by
      intro i hi
      obtain ⟨cs', h1, h2⟩ := hx i (by omega)
      rw [hC] at h1
      obtain ⟨_, hlen, hcell⟩ := World.cells?_some h1
      obtain ⟨q, rfl⟩ := elem_56 h2
      refine ⟨q, fun j u hj => ?_⟩
      have hj' : j < 9 := (List.getElem?_eq_some_iff.1 hj).1
      have q_ := hcell j hj'
      rw [Go.Deep.add_add] at q_
      exact q_.trans hj
    have inh_ : Inhabited PFnExactExpandShare.S56 := ⟨PFnExactExpandShare.z56⟩
    obtain ⟨q, hq⟩ := Go.Deep.choose_lt each
    have hn : ((List.range len).map q).length = len := by simp
    refine ⟨(List.range len).map q, hn.symm, ?_, by rw [hn]; omega, by rw [hn]; exact hl⟩
    rw [hn]
    refine ⟨hn, Nat.le_trans hl hm, fun _ => ⟨x, rfl, fun j y hy => ?_⟩⟩
    have hj : j < len := by have q_ := (List.getElem?_eq_some_iff.1 hy).1; omega
    rw [List.getElem?_map, List.getElem?_range hj] at hy
    obtain rfl := Option.some.inj hy
    exact ⟨_, rfl, PFnExactExpandShare.k56_mk W (q j), hq j (by omega)⟩
set_option maxRecDepth 100000 in
theorem lifted (os : Os) (started : os.Started) (H : Type) (enc : TypeId × Value → H) :
    ReturnsInHanded {} Try.checked os 7 .any (Rows.fnExactExpandShareSpec.pre6 enc Try.prog Try.f7 Rows.fnExactExpandShareRow.domain false) (Rows.fnExactExpandShareSpec.post enc Try.prog Try.f7 false true false false) := by
  refine returnsInHanded_of_change_sized (C := Try.checked) own started (by kernel_rfl) Try.func7
    (ChangeSpec.witness6 (enc := enc) (C := Try.checked) false ⟨#[], #[.slice none 0 0, .int .i64 0, .bool false], []⟩ 8 (by kernel_rfl) (by kernel_rfl) (by kernel_rfl) (by kernel_rfl)) ?_
  intro W base args ds gs before hval0 hW hcnd hsz0 _
  have hsz : (DataW.weightsEach Try.prog (Try.f7.params.toList ++ Rows.fnExactExpandShareSpec.plain.varTypes Try.prog) (ds ++ gs)).all (· ≤ reachBytes) = true := hsz0
  have hval : ∀ (j : Nat) t v, Try.f7.params[j]? = some t → args[j]? = some v → Value.okWide Try.prog W .any base t v := hval0
  have hW' := hW
  obtain ⟨p, q, hA0, hV, rfl, hfz, hnd⟩ := hW
  have hA : DataW.TrodAll enc Try.prog W 0 (fun _ => true) true Try.f7.params.toList args.toList ds p := hA0
  rw [Try.params7] at hA hval hsz
  obtain ⟨v0, vs0, d0, ds0, p0, q0, hargs, rfl, rfl, h0, r0⟩ := trodAll_cons hA
  obtain ⟨v1, vs1, d1, ds1, p1, q1, rfl, rfl, rfl, h1, r1⟩ := trodAll_cons r0
  obtain ⟨v2, vs2, d2, ds2, p2, q2, rfl, rfl, rfl, h2, r2⟩ := trodAll_cons r1
  obtain ⟨rfl, rfl, rfl⟩ := trodAll_nil r2
  obtain rfl : args = #[v0, v1, v2] := by cases args; simp_all
  obtain ⟨rfl, rfl⟩ := trodVars_none hV
  have k0 := h0
  have lt0 : ∀ x ∈ p0, x.block < W.heap.size := by obtain ⟨m, hm⟩ := k0; exact DataW.trod_lt m _ _ _ hm
  obtain ⟨A0, len0, c0, rfl⟩ := okWide_slice Try.underlying31 (hval 0 31 v0 rfl rfl)
  obtain ⟨l0, rfl, hr0, hm0, hc0⟩ := row_31 h0
  have k1 := h1
  have lt1 : ∀ x ∈ p1, x.block < W.heap.size := by obtain ⟨m, hm⟩ := k1; exact DataW.trod_lt m _ _ _ hm
  obtain ⟨a1, rfl, rfl, rfl, w1⟩ := open_int Try.underlying3 (hval 1 3 v1 rfl rfl) h1
  have k2 := h2
  have lt2 : ∀ x ∈ p2, x.block < W.heap.size := by obtain ⟨m, hm⟩ := k2; exact DataW.trod_lt m _ _ _ hm
  obtain ⟨a2, rfl, rfl, rfl⟩ := open_bool Try.underlying4 (hval 2 4 v2 rfl rfl) h2
  clear hA0 hval0 hsz0
  obtain ⟨k, hk⟩ := Pure.FnExactExpandShare l0 a1 a2 hm0 w1
  refine (PFnExactExpandShare.laws_FnExactExpandShare.calls k A0 c0 l0 a1 a2 true W hr0 hc0 hk).mono fun e W' ⟨he, bel0⟩ => ?_
  have bel : Below W.heap.size W W' := bel0
  subst he
  exact ⟨_, rfl, _, _, _, [], _, [], hW', trodAll_mk1 (shut_bool Try.underlying4 _), (trodAll_cons_mk (Below.trod laidOut (by kernel_rfl) (of_decide_eq_true (by kernel_rfl)) k0 bel lt0) (trodAll_cons_mk (Below.trod laidOut (by kernel_rfl) (of_decide_eq_true (by kernel_rfl)) k1 bel lt1) (trodAll_cons_mk (Below.trod laidOut (by kernel_rfl) (of_decide_eq_true (by kernel_rfl)) k2 bel lt2) trodAll_mk0))), rfl, bel.frame _, fun h => by cases h⟩
theorem over : Rows.fnExactExpandShareRow.holds Try.pinned (OpenSpec.ofChange Rows.fnExactExpandShareSpec) :=
  OpenClaim.holds_of_wide 7 Try.f7 rfl rfl rfl rfl rfl rfl rfl ⟨rfl, rfl, rfl, rfl, rfl⟩ rfl rfl rfl rfl rfl (by kernel_rfl) Try.func7 (by kernel_rfl)
    (of_decide_eq_true (by kernel_rfl)) (by unfold Func.isWrapper; first | (rw [if_pos (by decide +kernel)]; kernel_rfl) | (rw [if_neg (by decide +kernel)]; exact ⟨rfl, rfl⟩))
    (fun os started H enc _ => lifted os started H enc)
theorem proved : Rows.FnExactExpandShareSaid := over
#print axioms proved
end Go.Proofs.Ytffihkpnampboaa.fnExactExpandShare
namespace Go.Proofs.Ytffihkpnampboaa
/-- The row, under a short name, for the claim. -/
theorem fnExactExpandShare_holds : Rows.FnExactExpandShareSaid := fnExactExpandShare.proved
end Go.Proofs.Ytffihkpnampboaa
