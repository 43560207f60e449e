/- Go's max and min of two whole numbers, for a walk: as 'mx' and 'mn'. No condition. -/
import Derived.Test.YtffihkpnampboaaWMore
import Derived.Lib.SliceRun
namespace Go.Proofs.Ytffihkpnampboaa.MxMn
open Go Go.RowKit Go.Proofs.YtffihkpnampboaaW.PrintWords Go.Proofs.YtffihkpnampboaaW.PrintMore
theorem max2_mx (k k' : IntKind) (x y : Int) : Builtin.max2 (.int k x) (.int k' y) = pure (.int k (mx x y)) := by rw [max2_int]; rfl
abbrev F_ : Bool := false
abbrev T_ : Bool := true
theorem q1 {α : Type _} {i : Nat} {a : α} (l : List α) : l.toArray.setIfInBounds i a = (l.set i a).toArray := List.setIfInBounds_toArray l i a
theorem q2 {α : Type _} {a b : α} {l : List α} : (a :: l).set 0 b = b :: l := List.set_cons_zero
theorem q3 {α : Type _} {a b : α} {l : List α} {i : Nat} : (a :: l).set (i + 1) b = a :: l.set i b := List.set_cons_succ
theorem min2_mn (k k' : IntKind) (x y : Int) : Builtin.min2 (.int k x) (.int k' y) = pure (.int k (mn x y)) := by rw [min2_int]; rfl
end Go.Proofs.Ytffihkpnampboaa.MxMn
