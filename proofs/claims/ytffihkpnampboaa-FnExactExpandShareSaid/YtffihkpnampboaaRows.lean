/-
  No cell of these rows narrows 'for every input' (looked for: loops, veiled, ifaces, maps, wideKeys, modest, calm, conditions, laid).
  DERIVED. THE GIVEN ROWS OF THIS SEAT. 5 by the template 'for every input the law returns true; each argument reads behind the call as it read before'; 0 by the template 'total and deterministic' (their statements: YtffihkpnampboaaTotals.lean).
  GIVEN WITH THE SEED: the statements are not yours to turn. If you find one false, say at which input.
  Laid BY PROGRAM, IN A SANDBOX (cutbox-rows.mjs): the forced cells as the released guide's own fill.sh prints them over the translation 0e1041edc40cefe6… (all of the seat's roots in one cut). By AI agents, Wed Nov 11 2026. No macro, syntax, notation, axiom, sorry.
-/
import Derived.Test.YtffihkpnampboaaChecked
import GoSem.Claim
import GoSem.ClaimJoined
import GoSem.ClaimMapViews
import Derived.JoinedTies
import Derived.KernelRfl
namespace Go.Proofs.Ytffihkpnampboaa
/- THE CELL 'sum', in the pinned program and in every row, IS THE sha256 OF THE DUMP (.gsa) THAT YtffihkpnampboaaProg.lean LOADS. Nothing in Lean hashes anything: it is a label: what it is worth is what the hold of that sum in a sandbox is worth. -/
noncomputable def Try.pinned : Pinned := { name := "ytffihkpnampboaa", sum := "0e1041edc40cefe606cf9a061f2a2e65258b95f35f62f230e058ffe8fa4f557f", checked := Try.checked }
namespace Rows
def none {H : Type} : Left H := { results := [], args := [] }

/-- 'laws.FnPackRequest': WHATEVER THE INPUT: true; the input reads as it did. -/
def fnPackRequestSpec : ChangeSpec := { name := "fnPackRequest", fn := fun _ => fun
  | [d] => { results := [.lit (.bool true)], args := [d] }
  | _ => none }
def fnPackRequestRow : OpenClaim := { program := "ytffihkpnampboaa", sum := "0e1041edc40cefe606cf9a061f2a2e65258b95f35f62f230e058ffe8fa4f557f", func := "loop.example/widgetroom/laws.FnPackRequest", spec := "fnPackRequest", unfollowed := true, recurses := true, apart := false }
def FnPackRequestSaid : Prop := fnPackRequestRow.holds Try.pinned (OpenSpec.ofChange fnPackRequestSpec)

/-- ITS FALSE NEIGHBOUR: 'it returns false'. Refute it at one input. -/
def fnPackRequestWrong : ChangeSpec := { name := "fnPackRequest", fn := fun _ => fun
  | [d] => { results := [.lit (.bool false)], args := [d] }
  | _ => none }
def FnPackRequestWrongFalsely : Prop := fnPackRequestRow.holds Try.pinned (OpenSpec.ofChange fnPackRequestWrong)

/-- 'laws.FnExactPackRequest': WHATEVER THE INPUT: true; the input reads as it did. -/
def fnExactPackRequestSpec : ChangeSpec := { name := "fnExactPackRequest", fn := fun _ => fun
  | [d] => { results := [.lit (.bool true)], args := [d] }
  | _ => none }
def fnExactPackRequestRow : OpenClaim := { program := "ytffihkpnampboaa", sum := "0e1041edc40cefe606cf9a061f2a2e65258b95f35f62f230e058ffe8fa4f557f", func := "loop.example/widgetroom/laws.FnExactPackRequest", spec := "fnExactPackRequest", unfollowed := true, recurses := true, apart := false }
def FnExactPackRequestSaid : Prop := fnExactPackRequestRow.holds Try.pinned (OpenSpec.ofChange fnExactPackRequestSpec)

/-- ITS FALSE NEIGHBOUR: 'it returns false'. Refute it at one input. -/
def fnExactPackRequestWrong : ChangeSpec := { name := "fnExactPackRequest", fn := fun _ => fun
  | [d] => { results := [.lit (.bool false)], args := [d] }
  | _ => none }
def FnExactPackRequestWrongFalsely : Prop := fnExactPackRequestRow.holds Try.pinned (OpenSpec.ofChange fnExactPackRequestWrong)

/-- 'laws.FnResizePanes': WHATEVER THE INPUT: true; the input reads as it did. -/
def fnResizePanesSpec : ChangeSpec := { name := "fnResizePanes", fn := fun _ => fun
  | [d] => { results := [.lit (.bool true)], args := [d] }
  | _ => none }
def fnResizePanesRow : OpenClaim := { program := "ytffihkpnampboaa", sum := "0e1041edc40cefe606cf9a061f2a2e65258b95f35f62f230e058ffe8fa4f557f", func := "loop.example/widgetroom/laws.FnResizePanes", spec := "fnResizePanes", apart := false }
def FnResizePanesSaid : Prop := fnResizePanesRow.holds Try.pinned (OpenSpec.ofChange fnResizePanesSpec)

/-- ITS FALSE NEIGHBOUR: 'it returns false'. Refute it at one input. -/
def fnResizePanesWrong : ChangeSpec := { name := "fnResizePanes", fn := fun _ => fun
  | [d] => { results := [.lit (.bool false)], args := [d] }
  | _ => none }
def FnResizePanesWrongFalsely : Prop := fnResizePanesRow.holds Try.pinned (OpenSpec.ofChange fnResizePanesWrong)

/-- 'laws.FnDragSashFar': WHATEVER THE INPUT: true; the input reads as it did. -/
def fnDragSashFarSpec : ChangeSpec := { name := "fnDragSashFar", fn := fun _ => fun
  | [d] => { results := [.lit (.bool true)], args := [d] }
  | _ => none }
def fnDragSashFarRow : OpenClaim := { program := "ytffihkpnampboaa", sum := "0e1041edc40cefe606cf9a061f2a2e65258b95f35f62f230e058ffe8fa4f557f", func := "loop.example/widgetroom/laws.FnDragSashFar", spec := "fnDragSashFar", apart := false }
def FnDragSashFarSaid : Prop := fnDragSashFarRow.holds Try.pinned (OpenSpec.ofChange fnDragSashFarSpec)

/-- ITS FALSE NEIGHBOUR: 'it returns false'. Refute it at one input. -/
def fnDragSashFarWrong : ChangeSpec := { name := "fnDragSashFar", fn := fun _ => fun
  | [d] => { results := [.lit (.bool false)], args := [d] }
  | _ => none }
def FnDragSashFarWrongFalsely : Prop := fnDragSashFarRow.holds Try.pinned (OpenSpec.ofChange fnDragSashFarWrong)

/-- 'laws.FnExactExpandShare': WHATEVER THE INPUT: true; the input reads as it did. -/
def fnExactExpandShareSpec : ChangeSpec := { name := "fnExactExpandShare", fn := fun _ => fun
  | [d1, d2, d3] => { results := [.lit (.bool true)], args := [d1, d2, d3] }
  | _ => none }
def fnExactExpandShareRow : OpenClaim := { program := "ytffihkpnampboaa", sum := "0e1041edc40cefe606cf9a061f2a2e65258b95f35f62f230e058ffe8fa4f557f", func := "loop.example/widgetroom/laws.FnExactExpandShare", spec := "fnExactExpandShare", unfollowed := true, recurses := true, apart := false }
def FnExactExpandShareSaid : Prop := fnExactExpandShareRow.holds Try.pinned (OpenSpec.ofChange fnExactExpandShareSpec)

/-- ITS FALSE NEIGHBOUR: 'it returns false'. Refute it at one input. -/
def fnExactExpandShareWrong : ChangeSpec := { name := "fnExactExpandShare", fn := fun _ => fun
  | [d1, d2, d3] => { results := [.lit (.bool false)], args := [d1, d2, d3] }
  | _ => none }
def FnExactExpandShareWrongFalsely : Prop := fnExactExpandShareRow.holds Try.pinned (OpenSpec.ofChange fnExactExpandShareWrong)

/- THE SECOND FORM. 'bulk': how many values and letters a reading holds, each counted each time it is reached (what is shared counts as often as it is met; a slice's spare places count too). A statement '..UptoSaid' is the law's where the arguments, and the package variables that the reading takes, are together of bulk at most 1048576: NARROWER than '..Said'. Prove '..Said' where nothing that the law and all that it calls make is longer than what came in: it says more and counts as full. Else prove '..UptoSaid'. A law counts once. -/
mutual
def uptoBulk {H : Type} : DataW H → Nat
  | .lit (.string bytes) => bytes.length + 1
  | .lit _ => 1
  | .nil => 1
  | .ptr d => uptoBulk d + 1
  | .slice elems spare => uptoBulkAll elems + uptoBulkAll spare + 1
  | .agg parts => uptoBulkAll parts + 1
  | .iface _ d => uptoBulk d + 1
  | .map entries => uptoBulkEntries entries + 1
  | .held _ => 1
def uptoBulkAll {H : Type} : List (DataW H) → Nat
  | [] => 0
  | d :: r => uptoBulk d + uptoBulkAll r
def uptoBulkEntries {H : Type} : List (Lit × DataW H) → Nat
  | [] => 0
  | x :: r => uptoBulkEntry x + uptoBulkEntries r
def uptoBulkEntry {H : Type} : Lit × DataW H → Nat
  | (.string bytes, d) => bytes.length + uptoBulk d + 1
  | (_, d) => uptoBulk d + 1
 end
def uptoSmall : (H : Type) → List (DataW H) → Bool := fun _ ds => decide (uptoBulkAll ds ≤ 1048576)
def OpenSpec.upto (s : _root_.Go.ChangeSpec) : _root_.Go.OpenSpec := { _root_.Go.OpenSpec.ofChange s with cond := some uptoSmall }

/-- 'laws.FnPackRequest', WHERE WHAT IT READS IS OF BULK AT MOST 1048576: true; the input reads as it did. -/
def fnPackRequestUptoRow : OpenClaim := { program := "ytffihkpnampboaa", sum := "0e1041edc40cefe606cf9a061f2a2e65258b95f35f62f230e058ffe8fa4f557f", func := "loop.example/widgetroom/laws.FnPackRequest", spec := "fnPackRequest", unfollowed := true, recurses := true, apart := false, narrowed := true }
def FnPackRequestUptoSaid : Prop := fnPackRequestUptoRow.holds Try.pinned (OpenSpec.upto fnPackRequestSpec)

/-- 'laws.FnExactPackRequest', WHERE WHAT IT READS IS OF BULK AT MOST 1048576: true; the input reads as it did. -/
def fnExactPackRequestUptoRow : OpenClaim := { program := "ytffihkpnampboaa", sum := "0e1041edc40cefe606cf9a061f2a2e65258b95f35f62f230e058ffe8fa4f557f", func := "loop.example/widgetroom/laws.FnExactPackRequest", spec := "fnExactPackRequest", unfollowed := true, recurses := true, apart := false, narrowed := true }
def FnExactPackRequestUptoSaid : Prop := fnExactPackRequestUptoRow.holds Try.pinned (OpenSpec.upto fnExactPackRequestSpec)

/-- 'laws.FnResizePanes', WHERE WHAT IT READS IS OF BULK AT MOST 1048576: true; the input reads as it did. -/
def fnResizePanesUptoRow : OpenClaim := { program := "ytffihkpnampboaa", sum := "0e1041edc40cefe606cf9a061f2a2e65258b95f35f62f230e058ffe8fa4f557f", func := "loop.example/widgetroom/laws.FnResizePanes", spec := "fnResizePanes", apart := false, narrowed := true }
def FnResizePanesUptoSaid : Prop := fnResizePanesUptoRow.holds Try.pinned (OpenSpec.upto fnResizePanesSpec)

/-- 'laws.FnDragSashFar', WHERE WHAT IT READS IS OF BULK AT MOST 1048576: true; the input reads as it did. -/
def fnDragSashFarUptoRow : OpenClaim := { program := "ytffihkpnampboaa", sum := "0e1041edc40cefe606cf9a061f2a2e65258b95f35f62f230e058ffe8fa4f557f", func := "loop.example/widgetroom/laws.FnDragSashFar", spec := "fnDragSashFar", apart := false, narrowed := true }
def FnDragSashFarUptoSaid : Prop := fnDragSashFarUptoRow.holds Try.pinned (OpenSpec.upto fnDragSashFarSpec)

/-- 'laws.FnExactExpandShare', WHERE WHAT IT READS IS OF BULK AT MOST 1048576: true; the input reads as it did. -/
def fnExactExpandShareUptoRow : OpenClaim := { program := "ytffihkpnampboaa", sum := "0e1041edc40cefe606cf9a061f2a2e65258b95f35f62f230e058ffe8fa4f557f", func := "loop.example/widgetroom/laws.FnExactExpandShare", spec := "fnExactExpandShare", unfollowed := true, recurses := true, apart := false, narrowed := true }
def FnExactExpandShareUptoSaid : Prop := fnExactExpandShareUptoRow.holds Try.pinned (OpenSpec.upto fnExactExpandShareSpec)

end Rows
end Go.Proofs.Ytffihkpnampboaa
