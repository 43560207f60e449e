/- How a struct parameter of these laws reads: its fields' numbers and bools. No condition. -/
import Derived.Test.YtnekecbhjlamoaaProg
import Derived.WalkKit
import Derived.ProofKit
import Derived.OpenShut
import Derived.Deep.Fields
import Derived.KernelRfl
import Derived.ChangeArms
import Derived.WideShapes
namespace Go.Proofs.Ytnekecbhjlamoaa.Open
open Go.ChangeShapes Go.WideShapes Go.ChangeAt Go.RowKit Go.Deep
set_option linter.unusedVariables false
theorem open_flat {H : Type} {enc : TypeId × Value → H} {P : Program} {w : World} {base : Nat} {spare : Nat → Bool} {held : Bool} {r : Reach} {b0 : Nat} {t : TypeId} {fs : Array Field} {v : Value} {d : DataW H} {p : List MemPlace}
    (hs : P.underlying t = some (.struct fs)) (hone : oneCellFields P fs = true) (hC : P.cellsOf t = fs.size) (hv : Value.okWide P w r b0 t v) (h : DataW.Trod enc P w base spare held t v d p) :
    ∃ (vs : List Value), v = .agg vs.toArray ∧ vs.length = fs.size ∧ ∀ (i : Nat) (f : Field) (c : Value), fs[i]? = some f → vs[i]? = some c → ∃ (n : Nat) (y : DataW H × List MemPlace), DataW.trod enc P w base spare held n f.type [c] = some y := by
  obtain ⟨cs, rfl, hsz⟩ := okWide_struct hs hv
  obtain ⟨fuel, hf⟩ := h
  obtain ⟨xs, n, _, _, _, hlen, hx⟩ := DataW.trod_struct hs hf
  refine ⟨cs.toList, by simp, by simpa using hsz.trans hC, ?_⟩
  intro i f c hi hc
  obtain ⟨o, k⟩ := hone_of hone i f hi
  have hlt : i < fs.size := (Array.getElem?_eq_some_iff.1 hi).1
  have h1 := hx i f hi
  rw [o, k] at h1
  have hd : (Value.agg cs).cells.toList.drop i = c :: (cs.toList.drop (i + 1)) := by
    have hlt' : i < cs.toList.length := by simpa using (by omega : i < cs.size)
    have : cs.toList[i] = c := by
      rw [List.getElem?_eq_getElem hlt'] at hc
      exact Option.some.inj hc
    simp only [Value.cells]
    rw [List.drop_eq_getElem_cons hlt', this]
  rw [hd] at h1
  simp only [List.take_succ_cons, List.take_zero] at h1
  have hlt2 : i < xs.length := by omega
  exact ⟨n, xs[i], by rw [h1, List.getElem?_eq_getElem hlt2]⟩

theorem slice_cell {H : Type} {enc : TypeId × Value → H} {P : Program} {w : World} {base : Nat} {k : IntKind} {t e : TypeId} {n : Nat} {c : Value} {y : DataW H × List MemPlace}
    (hu : P.underlying t = some (.slice e)) (he : P.underlying e = some (.int k)) (hc : P.cellsOf e = 1) (q : DataW.trod enc P w base (fun _ => true) true n t [c] = some y) :
    ∃ (a : Option Addr) (m p : Nat) (zs : List Int), c = .slice a m p ∧ ((a = none ∧ m = 0 ∧ p = 0 ∧ zs = []) ∨ ∃ x, a = some x ∧ m ≤ p ∧ p ≤ maxLen ∧ zs.length = p ∧ (∀ i, i < zs.length → w.cell? (x.add i) = some (.int k (zs.getD i 0))) ∧ ∀ n ∈ zs, (Lit.int k n).wf = true) := by
  obtain ⟨d, ps⟩ := y
  rcases open_ints hu he hc q with ⟨hcs, _⟩ | ⟨x, l, c', zs, hcs, _, hl, hm, hz, _, hcell, hwz⟩
  · exact ⟨none, 0, 0, [], by simpa using hcs, .inl ⟨rfl, rfl, rfl, rfl⟩⟩
  · exact ⟨some x, l, c', zs, by simpa using hcs, .inr ⟨x, rfl, hl, hm, by simpa using hz, hcell, hwz⟩⟩

theorem list_2 {α : Type} {l : List α} (h : l.length = 2) : ∃ c0 c1, l = [c0, c1] := by
  match l, h with
  | [c0, c1], _ => exact ⟨c0, c1, rfl⟩
set_option maxRecDepth 100000 in
theorem open_t48 {H : Type} {enc : TypeId × Value → H} {w : World} {base : Nat} {r : Reach} {b0 : Nat} {v : Value} {d : DataW H} {p : List MemPlace}
    (hv : Value.okWide Try.prog w r b0 48 v) (h : DataW.Trod enc Try.prog w base (fun _ => true) true 48 v d p) :
    ∃ (x0a : Option Addr) (x0n x0c : Nat) (x0z : List Int) (x1a : Option Addr) (x1n x1c : Nat) (x1z : List Int), v = .agg #[.slice x0a x0n x0c, .slice x1a x1n x1c] ∧ ((x0a = none ∧ x0n = 0 ∧ x0c = 0 ∧ x0z = []) ∨ ∃ x, x0a = some x ∧ x0n ≤ x0c ∧ x0c ≤ maxLen ∧ x0z.length = x0c ∧ (∀ i, i < x0z.length → w.cell? (x.add i) = some (.int .i64 (x0z.getD i 0))) ∧ ∀ n ∈ x0z, (Lit.int .i64 n).wf = true) ∧ ((x1a = none ∧ x1n = 0 ∧ x1c = 0 ∧ x1z = []) ∨ ∃ x, x1a = some x ∧ x1n ≤ x1c ∧ x1c ≤ maxLen ∧ x1z.length = x1c ∧ (∀ i, i < x1z.length → w.cell? (x.add i) = some (.int .i64 (x1z.getD i 0))) ∧ ∀ n ∈ x1z, (Lit.int .i64 n).wf = true) := by
  obtain ⟨vs, rfl, hl, hf⟩ := open_flat Try.underlying48 (by kernel_rfl) (by kernel_rfl) hv h
  obtain ⟨c0, c1, rfl⟩ := list_2 hl
  obtain ⟨n0, y0, q0⟩ := hf 0 _ c0 rfl rfl
  obtain ⟨x0a, x0n, x0c, x0z, rfl, e0⟩ := slice_cell Try.underlying35 Try.underlying3 (by kernel_rfl) q0
  obtain ⟨n1, y1, q1⟩ := hf 1 _ c1 rfl rfl
  obtain ⟨x1a, x1n, x1c, x1z, rfl, e1⟩ := slice_cell Try.underlying35 Try.underlying3 (by kernel_rfl) q1
  exact ⟨x0a, x0n, x0c, x0z, x1a, x1n, x1c, x1z, rfl, e0, e1⟩
end Go.Proofs.Ytnekecbhjlamoaa.Open
