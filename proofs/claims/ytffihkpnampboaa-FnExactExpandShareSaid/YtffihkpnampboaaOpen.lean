/- How a struct parameter of these laws reads: its fields' numbers and bools. No condition. -/
import Derived.Test.YtffihkpnampboaaProg
import Derived.WalkKit
import Derived.ProofKit
import Derived.OpenShut
import Derived.Deep.Fields
import Derived.KernelRfl
import Derived.ChangeArms
import Derived.WideShapes
namespace Go.Proofs.Ytffihkpnampboaa.Open
open Go.ChangeShapes Go.WideShapes Go.ChangeAt Go.RowKit Go.Deep
set_option linter.unusedVariables false
theorem open_flat {H : Type} {enc : TypeId × Value → H} {P : Program} {w : World} {base : Nat} {spare : Nat → Bool} {held : Bool} {r : Reach} {b0 : Nat} {t : TypeId} {fs : Array Field} {v : Value} {d : DataW H} {p : List MemPlace}
    (hs : P.underlying t = some (.struct fs)) (hone : oneCellFields P fs = true) (hC : P.cellsOf t = fs.size) (hv : Value.okWide P w r b0 t v) (h : DataW.Trod enc P w base spare held t v d p) :
    ∃ (vs : List Value), v = .agg vs.toArray ∧ vs.length = fs.size ∧ ∀ (i : Nat) (f : Field) (c : Value), fs[i]? = some f → vs[i]? = some c → ∃ (n : Nat) (y : DataW H × List MemPlace), DataW.trod enc P w base spare held n f.type [c] = some y := by
  obtain ⟨cs, rfl, hsz⟩ := okWide_struct hs hv
  obtain ⟨fuel, hf⟩ := h
  obtain ⟨xs, n, _, _, _, hlen, hx⟩ := DataW.trod_struct hs hf
  refine ⟨cs.toList, by simp, by simpa using hsz.trans hC, ?_⟩
  intro i f c hi hc
  obtain ⟨o, k⟩ := hone_of hone i f hi
  have hlt : i < fs.size := (Array.getElem?_eq_some_iff.1 hi).1
  have h1 := hx i f hi
  rw [o, k] at h1
  have hd : (Value.agg cs).cells.toList.drop i = c :: (cs.toList.drop (i + 1)) := by
    have hlt' : i < cs.toList.length := by simpa using (by omega : i < cs.size)
    have : cs.toList[i] = c := by
      rw [List.getElem?_eq_getElem hlt'] at hc
      exact Option.some.inj hc
    simp only [Value.cells]
    rw [List.drop_eq_getElem_cons hlt', this]
  rw [hd] at h1
  simp only [List.take_succ_cons, List.take_zero] at h1
  have hlt2 : i < xs.length := by omega
  exact ⟨n, xs[i], by rw [h1, List.getElem?_eq_getElem hlt2]⟩

end Go.Proofs.Ytffihkpnampboaa.Open
