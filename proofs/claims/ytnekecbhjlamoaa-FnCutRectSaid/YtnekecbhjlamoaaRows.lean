/-
  No cell of these rows narrows 'for every input' (looked for: loops, veiled, ifaces, maps, wideKeys, modest, calm, conditions, laid).
  DERIVED. THE GIVEN ROWS OF THIS SEAT. 10 by the template 'for every input the law returns true; each argument reads behind the call as it read before'; 0 by the template 'total and deterministic' (their statements: YtnekecbhjlamoaaTotals.lean).
  GIVEN WITH THE SEED: the statements are not yours to turn. If you find one false, say at which input.
  Laid BY PROGRAM, IN A SANDBOX (cutbox-rows.mjs): the forced cells as the released guide's own fill.sh prints them over the translation 8920b4fc9917ab32… (all of the seat's roots in one cut). By AI agents, Wed Nov 11 2026. No macro, syntax, notation, axiom, sorry.
-/
import Derived.Test.YtnekecbhjlamoaaChecked
import GoSem.Claim
import GoSem.ClaimJoined
import GoSem.ClaimMapViews
import Derived.JoinedTies
import Derived.KernelRfl
namespace Go.Proofs.Ytnekecbhjlamoaa
/- THE CELL 'sum', in the pinned program and in every row, IS THE sha256 OF THE DUMP (.gsa) THAT YtnekecbhjlamoaaProg.lean LOADS. Nothing in Lean hashes anything: it is a label: what it is worth is what the hold of that sum in a sandbox is worth. -/
noncomputable def Try.pinned : Pinned := { name := "ytnekecbhjlamoaa", sum := "8920b4fc9917ab3220590d768bb4ae1811a678887e8020647cf29c45e342e1a5", checked := Try.checked }
namespace Rows
def none {H : Type} : Left H := { results := [], args := [] }

/-- 'laws.FnPlaceInside': WHATEVER THE INPUT: true; the input reads as it did. -/
def fnPlaceInsideSpec : ChangeSpec := { name := "fnPlaceInside", fn := fun _ => fun
  | [d] => { results := [.lit (.bool true)], args := [d] }
  | _ => none }
def fnPlaceInsideRow : OpenClaim := { program := "ytnekecbhjlamoaa", sum := "8920b4fc9917ab3220590d768bb4ae1811a678887e8020647cf29c45e342e1a5", func := "loop.example/widgetroom/laws.FnPlaceInside", spec := "fnPlaceInside", apart := false }
def FnPlaceInsideSaid : Prop := fnPlaceInsideRow.holds Try.pinned (OpenSpec.ofChange fnPlaceInsideSpec)

/-- ITS FALSE NEIGHBOUR: 'it returns false'. Refute it at one input. -/
def fnPlaceInsideWrong : ChangeSpec := { name := "fnPlaceInside", fn := fun _ => fun
  | [d] => { results := [.lit (.bool false)], args := [d] }
  | _ => none }
def FnPlaceInsideWrongFalsely : Prop := fnPlaceInsideRow.holds Try.pinned (OpenSpec.ofChange fnPlaceInsideWrong)

/-- 'laws.FnExactSpreadBy': WHATEVER THE INPUT: true; the input reads as it did. -/
def fnExactSpreadBySpec : ChangeSpec := { name := "fnExactSpreadBy", fn := fun _ => fun
  | [d1, d2] => { results := [.lit (.bool true)], args := [d1, d2] }
  | _ => none }
def fnExactSpreadByRow : OpenClaim := { program := "ytnekecbhjlamoaa", sum := "8920b4fc9917ab3220590d768bb4ae1811a678887e8020647cf29c45e342e1a5", func := "loop.example/widgetroom/laws.FnExactSpreadBy", spec := "fnExactSpreadBy", unfollowed := true, recurses := true, apart := false }
def FnExactSpreadBySaid : Prop := fnExactSpreadByRow.holds Try.pinned (OpenSpec.ofChange fnExactSpreadBySpec)

/-- ITS FALSE NEIGHBOUR: 'it returns false'. Refute it at one input. -/
def fnExactSpreadByWrong : ChangeSpec := { name := "fnExactSpreadBy", fn := fun _ => fun
  | [d1, d2] => { results := [.lit (.bool false)], args := [d1, d2] }
  | _ => none }
def FnExactSpreadByWrongFalsely : Prop := fnExactSpreadByRow.holds Try.pinned (OpenSpec.ofChange fnExactSpreadByWrong)

/-- 'laws.FnPaneAt': WHATEVER THE INPUT: true; the input reads as it did. -/
def fnPaneAtSpec : ChangeSpec := { name := "fnPaneAt", fn := fun _ => fun
  | [d] => { results := [.lit (.bool true)], args := [d] }
  | _ => none }
def fnPaneAtRow : OpenClaim := { program := "ytnekecbhjlamoaa", sum := "8920b4fc9917ab3220590d768bb4ae1811a678887e8020647cf29c45e342e1a5", func := "loop.example/widgetroom/laws.FnPaneAt", spec := "fnPaneAt", apart := false }
def FnPaneAtSaid : Prop := fnPaneAtRow.holds Try.pinned (OpenSpec.ofChange fnPaneAtSpec)

/-- ITS FALSE NEIGHBOUR: 'it returns false'. Refute it at one input. -/
def fnPaneAtWrong : ChangeSpec := { name := "fnPaneAt", fn := fun _ => fun
  | [d] => { results := [.lit (.bool false)], args := [d] }
  | _ => none }
def FnPaneAtWrongFalsely : Prop := fnPaneAtRow.holds Try.pinned (OpenSpec.ofChange fnPaneAtWrong)

/-- 'laws.FnExactPaneAt': WHATEVER THE INPUT: true; the input reads as it did. -/
def fnExactPaneAtSpec : ChangeSpec := { name := "fnExactPaneAt", fn := fun _ => fun
  | [d1, d2] => { results := [.lit (.bool true)], args := [d1, d2] }
  | _ => none }
def fnExactPaneAtRow : OpenClaim := { program := "ytnekecbhjlamoaa", sum := "8920b4fc9917ab3220590d768bb4ae1811a678887e8020647cf29c45e342e1a5", func := "loop.example/widgetroom/laws.FnExactPaneAt", spec := "fnExactPaneAt", apart := false }
def FnExactPaneAtSaid : Prop := fnExactPaneAtRow.holds Try.pinned (OpenSpec.ofChange fnExactPaneAtSpec)

/-- ITS FALSE NEIGHBOUR: 'it returns false'. Refute it at one input. -/
def fnExactPaneAtWrong : ChangeSpec := { name := "fnExactPaneAt", fn := fun _ => fun
  | [d1, d2] => { results := [.lit (.bool false)], args := [d1, d2] }
  | _ => none }
def FnExactPaneAtWrongFalsely : Prop := fnExactPaneAtRow.holds Try.pinned (OpenSpec.ofChange fnExactPaneAtWrong)

/-- 'laws.FnFixPlace': WHATEVER THE INPUT: true; the input reads as it did. -/
def fnFixPlaceSpec : ChangeSpec := { name := "fnFixPlace", fn := fun _ => fun
  | [d] => { results := [.lit (.bool true)], args := [d] }
  | _ => none }
def fnFixPlaceRow : OpenClaim := { program := "ytnekecbhjlamoaa", sum := "8920b4fc9917ab3220590d768bb4ae1811a678887e8020647cf29c45e342e1a5", func := "loop.example/widgetroom/laws.FnFixPlace", spec := "fnFixPlace", apart := false }
def FnFixPlaceSaid : Prop := fnFixPlaceRow.holds Try.pinned (OpenSpec.ofChange fnFixPlaceSpec)

/-- ITS FALSE NEIGHBOUR: 'it returns false'. Refute it at one input. -/
def fnFixPlaceWrong : ChangeSpec := { name := "fnFixPlace", fn := fun _ => fun
  | [d] => { results := [.lit (.bool false)], args := [d] }
  | _ => none }
def FnFixPlaceWrongFalsely : Prop := fnFixPlaceRow.holds Try.pinned (OpenSpec.ofChange fnFixPlaceWrong)

/-- 'laws.FnPlaceAt': WHATEVER THE INPUT: true; the input reads as it did. -/
def fnPlaceAtSpec : ChangeSpec := { name := "fnPlaceAt", fn := fun _ => fun
  | [d] => { results := [.lit (.bool true)], args := [d] }
  | _ => none }
def fnPlaceAtRow : OpenClaim := { program := "ytnekecbhjlamoaa", sum := "8920b4fc9917ab3220590d768bb4ae1811a678887e8020647cf29c45e342e1a5", func := "loop.example/widgetroom/laws.FnPlaceAt", spec := "fnPlaceAt", apart := false }
def FnPlaceAtSaid : Prop := fnPlaceAtRow.holds Try.pinned (OpenSpec.ofChange fnPlaceAtSpec)

/-- ITS FALSE NEIGHBOUR: 'it returns false'. Refute it at one input. -/
def fnPlaceAtWrong : ChangeSpec := { name := "fnPlaceAt", fn := fun _ => fun
  | [d] => { results := [.lit (.bool false)], args := [d] }
  | _ => none }
def FnPlaceAtWrongFalsely : Prop := fnPlaceAtRow.holds Try.pinned (OpenSpec.ofChange fnPlaceAtWrong)

/-- 'laws.FnSashAt': WHATEVER THE INPUT: true; the input reads as it did. -/
def fnSashAtSpec : ChangeSpec := { name := "fnSashAt", fn := fun _ => fun
  | [d] => { results := [.lit (.bool true)], args := [d] }
  | _ => none }
def fnSashAtRow : OpenClaim := { program := "ytnekecbhjlamoaa", sum := "8920b4fc9917ab3220590d768bb4ae1811a678887e8020647cf29c45e342e1a5", func := "loop.example/widgetroom/laws.FnSashAt", spec := "fnSashAt", apart := false }
def FnSashAtSaid : Prop := fnSashAtRow.holds Try.pinned (OpenSpec.ofChange fnSashAtSpec)

/-- ITS FALSE NEIGHBOUR: 'it returns false'. Refute it at one input. -/
def fnSashAtWrong : ChangeSpec := { name := "fnSashAt", fn := fun _ => fun
  | [d] => { results := [.lit (.bool false)], args := [d] }
  | _ => none }
def FnSashAtWrongFalsely : Prop := fnSashAtRow.holds Try.pinned (OpenSpec.ofChange fnSashAtWrong)

/-- 'laws.FnValidGrid': WHATEVER THE INPUT: true; the input reads as it did. -/
def fnValidGridSpec : ChangeSpec := { name := "fnValidGrid", fn := fun _ => fun
  | [d] => { results := [.lit (.bool true)], args := [d] }
  | _ => none }
def fnValidGridRow : OpenClaim := { program := "ytnekecbhjlamoaa", sum := "8920b4fc9917ab3220590d768bb4ae1811a678887e8020647cf29c45e342e1a5", func := "loop.example/widgetroom/laws.FnValidGrid", spec := "fnValidGrid", unfollowed := true, recurses := true, apart := false }
def FnValidGridSaid : Prop := fnValidGridRow.holds Try.pinned (OpenSpec.ofChange fnValidGridSpec)

/-- ITS FALSE NEIGHBOUR: 'it returns false'. Refute it at one input. -/
def fnValidGridWrong : ChangeSpec := { name := "fnValidGrid", fn := fun _ => fun
  | [d] => { results := [.lit (.bool false)], args := [d] }
  | _ => none }
def FnValidGridWrongFalsely : Prop := fnValidGridRow.holds Try.pinned (OpenSpec.ofChange fnValidGridWrong)

/-- 'laws.FnSpreadBy': WHATEVER THE INPUT: true; the input reads as it did. -/
def fnSpreadBySpec : ChangeSpec := { name := "fnSpreadBy", fn := fun _ => fun
  | [d] => { results := [.lit (.bool true)], args := [d] }
  | _ => none }
def fnSpreadByRow : OpenClaim := { program := "ytnekecbhjlamoaa", sum := "8920b4fc9917ab3220590d768bb4ae1811a678887e8020647cf29c45e342e1a5", func := "loop.example/widgetroom/laws.FnSpreadBy", spec := "fnSpreadBy", unfollowed := true, recurses := true, apart := false }
def FnSpreadBySaid : Prop := fnSpreadByRow.holds Try.pinned (OpenSpec.ofChange fnSpreadBySpec)

/-- ITS FALSE NEIGHBOUR: 'it returns false'. Refute it at one input. -/
def fnSpreadByWrong : ChangeSpec := { name := "fnSpreadBy", fn := fun _ => fun
  | [d] => { results := [.lit (.bool false)], args := [d] }
  | _ => none }
def FnSpreadByWrongFalsely : Prop := fnSpreadByRow.holds Try.pinned (OpenSpec.ofChange fnSpreadByWrong)

/-- 'laws.FnCutRect': WHATEVER THE INPUT: true; the input reads as it did. -/
def fnCutRectSpec : ChangeSpec := { name := "fnCutRect", fn := fun _ => fun
  | [d] => { results := [.lit (.bool true)], args := [d] }
  | _ => none }
def fnCutRectRow : OpenClaim := { program := "ytnekecbhjlamoaa", sum := "8920b4fc9917ab3220590d768bb4ae1811a678887e8020647cf29c45e342e1a5", func := "loop.example/widgetroom/laws.FnCutRect", spec := "fnCutRect", apart := false }
def FnCutRectSaid : Prop := fnCutRectRow.holds Try.pinned (OpenSpec.ofChange fnCutRectSpec)

/-- ITS FALSE NEIGHBOUR: 'it returns false'. Refute it at one input. -/
def fnCutRectWrong : ChangeSpec := { name := "fnCutRect", fn := fun _ => fun
  | [d] => { results := [.lit (.bool false)], args := [d] }
  | _ => none }
def FnCutRectWrongFalsely : Prop := fnCutRectRow.holds Try.pinned (OpenSpec.ofChange fnCutRectWrong)

/- THE SECOND FORM. 'bulk': how many values and letters a reading holds, each counted each time it is reached (what is shared counts as often as it is met; a slice's spare places count too). A statement '..UptoSaid' is the law's where the arguments, and the package variables that the reading takes, are together of bulk at most 1048576: NARROWER than '..Said'. Prove '..Said' where nothing that the law and all that it calls make is longer than what came in: it says more and counts as full. Else prove '..UptoSaid'. A law counts once. -/
mutual
def uptoBulk {H : Type} : DataW H → Nat
  | .lit (.string bytes) => bytes.length + 1
  | .lit _ => 1
  | .nil => 1
  | .ptr d => uptoBulk d + 1
  | .slice elems spare => uptoBulkAll elems + uptoBulkAll spare + 1
  | .agg parts => uptoBulkAll parts + 1
  | .iface _ d => uptoBulk d + 1
  | .map entries => uptoBulkEntries entries + 1
  | .held _ => 1
def uptoBulkAll {H : Type} : List (DataW H) → Nat
  | [] => 0
  | d :: r => uptoBulk d + uptoBulkAll r
def uptoBulkEntries {H : Type} : List (Lit × DataW H) → Nat
  | [] => 0
  | x :: r => uptoBulkEntry x + uptoBulkEntries r
def uptoBulkEntry {H : Type} : Lit × DataW H → Nat
  | (.string bytes, d) => bytes.length + uptoBulk d + 1
  | (_, d) => uptoBulk d + 1
 end
def uptoSmall : (H : Type) → List (DataW H) → Bool := fun _ ds => decide (uptoBulkAll ds ≤ 1048576)
def OpenSpec.upto (s : _root_.Go.ChangeSpec) : _root_.Go.OpenSpec := { _root_.Go.OpenSpec.ofChange s with cond := some uptoSmall }

/-- 'laws.FnPlaceInside', WHERE WHAT IT READS IS OF BULK AT MOST 1048576: true; the input reads as it did. -/
def fnPlaceInsideUptoRow : OpenClaim := { program := "ytnekecbhjlamoaa", sum := "8920b4fc9917ab3220590d768bb4ae1811a678887e8020647cf29c45e342e1a5", func := "loop.example/widgetroom/laws.FnPlaceInside", spec := "fnPlaceInside", apart := false, narrowed := true }
def FnPlaceInsideUptoSaid : Prop := fnPlaceInsideUptoRow.holds Try.pinned (OpenSpec.upto fnPlaceInsideSpec)

/-- 'laws.FnExactSpreadBy', WHERE WHAT IT READS IS OF BULK AT MOST 1048576: true; the input reads as it did. -/
def fnExactSpreadByUptoRow : OpenClaim := { program := "ytnekecbhjlamoaa", sum := "8920b4fc9917ab3220590d768bb4ae1811a678887e8020647cf29c45e342e1a5", func := "loop.example/widgetroom/laws.FnExactSpreadBy", spec := "fnExactSpreadBy", unfollowed := true, recurses := true, apart := false, narrowed := true }
def FnExactSpreadByUptoSaid : Prop := fnExactSpreadByUptoRow.holds Try.pinned (OpenSpec.upto fnExactSpreadBySpec)

/-- 'laws.FnPaneAt', WHERE WHAT IT READS IS OF BULK AT MOST 1048576: true; the input reads as it did. -/
def fnPaneAtUptoRow : OpenClaim := { program := "ytnekecbhjlamoaa", sum := "8920b4fc9917ab3220590d768bb4ae1811a678887e8020647cf29c45e342e1a5", func := "loop.example/widgetroom/laws.FnPaneAt", spec := "fnPaneAt", apart := false, narrowed := true }
def FnPaneAtUptoSaid : Prop := fnPaneAtUptoRow.holds Try.pinned (OpenSpec.upto fnPaneAtSpec)

/-- 'laws.FnExactPaneAt', WHERE WHAT IT READS IS OF BULK AT MOST 1048576: true; the input reads as it did. -/
def fnExactPaneAtUptoRow : OpenClaim := { program := "ytnekecbhjlamoaa", sum := "8920b4fc9917ab3220590d768bb4ae1811a678887e8020647cf29c45e342e1a5", func := "loop.example/widgetroom/laws.FnExactPaneAt", spec := "fnExactPaneAt", apart := false, narrowed := true }
def FnExactPaneAtUptoSaid : Prop := fnExactPaneAtUptoRow.holds Try.pinned (OpenSpec.upto fnExactPaneAtSpec)

/-- 'laws.FnFixPlace', WHERE WHAT IT READS IS OF BULK AT MOST 1048576: true; the input reads as it did. -/
def fnFixPlaceUptoRow : OpenClaim := { program := "ytnekecbhjlamoaa", sum := "8920b4fc9917ab3220590d768bb4ae1811a678887e8020647cf29c45e342e1a5", func := "loop.example/widgetroom/laws.FnFixPlace", spec := "fnFixPlace", apart := false, narrowed := true }
def FnFixPlaceUptoSaid : Prop := fnFixPlaceUptoRow.holds Try.pinned (OpenSpec.upto fnFixPlaceSpec)

/-- 'laws.FnPlaceAt', WHERE WHAT IT READS IS OF BULK AT MOST 1048576: true; the input reads as it did. -/
def fnPlaceAtUptoRow : OpenClaim := { program := "ytnekecbhjlamoaa", sum := "8920b4fc9917ab3220590d768bb4ae1811a678887e8020647cf29c45e342e1a5", func := "loop.example/widgetroom/laws.FnPlaceAt", spec := "fnPlaceAt", apart := false, narrowed := true }
def FnPlaceAtUptoSaid : Prop := fnPlaceAtUptoRow.holds Try.pinned (OpenSpec.upto fnPlaceAtSpec)

/-- 'laws.FnSashAt', WHERE WHAT IT READS IS OF BULK AT MOST 1048576: true; the input reads as it did. -/
def fnSashAtUptoRow : OpenClaim := { program := "ytnekecbhjlamoaa", sum := "8920b4fc9917ab3220590d768bb4ae1811a678887e8020647cf29c45e342e1a5", func := "loop.example/widgetroom/laws.FnSashAt", spec := "fnSashAt", apart := false, narrowed := true }
def FnSashAtUptoSaid : Prop := fnSashAtUptoRow.holds Try.pinned (OpenSpec.upto fnSashAtSpec)

/-- 'laws.FnValidGrid', WHERE WHAT IT READS IS OF BULK AT MOST 1048576: true; the input reads as it did. -/
def fnValidGridUptoRow : OpenClaim := { program := "ytnekecbhjlamoaa", sum := "8920b4fc9917ab3220590d768bb4ae1811a678887e8020647cf29c45e342e1a5", func := "loop.example/widgetroom/laws.FnValidGrid", spec := "fnValidGrid", unfollowed := true, recurses := true, apart := false, narrowed := true }
def FnValidGridUptoSaid : Prop := fnValidGridUptoRow.holds Try.pinned (OpenSpec.upto fnValidGridSpec)

/-- 'laws.FnSpreadBy', WHERE WHAT IT READS IS OF BULK AT MOST 1048576: true; the input reads as it did. -/
def fnSpreadByUptoRow : OpenClaim := { program := "ytnekecbhjlamoaa", sum := "8920b4fc9917ab3220590d768bb4ae1811a678887e8020647cf29c45e342e1a5", func := "loop.example/widgetroom/laws.FnSpreadBy", spec := "fnSpreadBy", unfollowed := true, recurses := true, apart := false, narrowed := true }
def FnSpreadByUptoSaid : Prop := fnSpreadByUptoRow.holds Try.pinned (OpenSpec.upto fnSpreadBySpec)

/-- 'laws.FnCutRect', WHERE WHAT IT READS IS OF BULK AT MOST 1048576: true; the input reads as it did. -/
def fnCutRectUptoRow : OpenClaim := { program := "ytnekecbhjlamoaa", sum := "8920b4fc9917ab3220590d768bb4ae1811a678887e8020647cf29c45e342e1a5", func := "loop.example/widgetroom/laws.FnCutRect", spec := "fnCutRect", apart := false, narrowed := true }
def FnCutRectUptoSaid : Prop := fnCutRectUptoRow.holds Try.pinned (OpenSpec.upto fnCutRectSpec)

end Rows
end Go.Proofs.Ytnekecbhjlamoaa
