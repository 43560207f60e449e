/-
  No cell of these rows narrows 'for every input' (looked for: loops, veiled, ifaces, maps, wideKeys, modest, calm, conditions, laid).
  DERIVED. THE GIVEN ROWS OF THIS SEAT. 12 by the template 'for every input the law returns true; each argument reads behind the call as it read before'; 0 by the template 'total and deterministic' (their statements: YtmjegiffddffdaaTotals.lean).
  GIVEN WITH THE SEED: the statements are not yours to turn. If you find one false, say at which input.
  Laid BY PROGRAM, IN A SANDBOX (cutbox-rows.mjs): the forced cells as the released guide's own fill.sh prints them over the translation 313d686e2c54ba9b… (all of the seat's roots in one cut). By AI agents, Wed Nov 11 2026. No macro, syntax, notation, axiom, sorry.
-/
import Derived.Test.YtmjegiffddffdaaChecked
import GoSem.Claim
import GoSem.ClaimJoined
import GoSem.ClaimMapViews
import Derived.JoinedTies
import Derived.KernelRfl
namespace Go.Proofs.Ytmjegiffddffdaa
/- THE CELL 'sum', in the pinned program and in every row, IS THE sha256 OF THE DUMP (.gsa) THAT YtmjegiffddffdaaProg.lean LOADS. Nothing in Lean hashes anything: it is a label: what it is worth is what the hold of that sum in a sandbox is worth. -/
noncomputable def Try.pinned : Pinned := { name := "ytmjegiffddffdaa", sum := "313d686e2c54ba9ba9e4da1879fcd26e944bcd1be79e97dc70b2680bfbdbcef8", checked := Try.checked }
namespace Rows
def none {H : Type} : Left H := { results := [], args := [] }

/-- 'laws.FnExactConstants': WHATEVER THE INPUT: true; the input reads as it did. -/
def fnExactConstantsSpec : ChangeSpec := { name := "fnExactConstants", fn := fun _ => fun
  | [] => { results := [.lit (.bool true)], args := [] }
  | _ => none }
def fnExactConstantsRow : OpenClaim := { program := "ytmjegiffddffdaa", sum := "313d686e2c54ba9ba9e4da1879fcd26e944bcd1be79e97dc70b2680bfbdbcef8", func := "loop.example/widgetroom/laws.FnExactConstants", spec := "fnExactConstants", apart := false }
def FnExactConstantsSaid : Prop := fnExactConstantsRow.holds Try.pinned (OpenSpec.ofChange fnExactConstantsSpec)

/-- ITS FALSE NEIGHBOUR: 'it returns false'. Refute it at one input. -/
def fnExactConstantsWrong : ChangeSpec := { name := "fnExactConstants", fn := fun _ => fun
  | [] => { results := [.lit (.bool false)], args := [] }
  | _ => none }
def FnExactConstantsWrongFalsely : Prop := fnExactConstantsRow.holds Try.pinned (OpenSpec.ofChange fnExactConstantsWrong)

/-- 'laws.FnExactValidRect': WHATEVER THE INPUT: true; the input reads as it did. -/
def fnExactValidRectSpec : ChangeSpec := { name := "fnExactValidRect", fn := fun _ => fun
  | [d] => { results := [.lit (.bool true)], args := [d] }
  | _ => none }
def fnExactValidRectRow : OpenClaim := { program := "ytmjegiffddffdaa", sum := "313d686e2c54ba9ba9e4da1879fcd26e944bcd1be79e97dc70b2680bfbdbcef8", func := "loop.example/widgetroom/laws.FnExactValidRect", spec := "fnExactValidRect", apart := false }
def FnExactValidRectSaid : Prop := fnExactValidRectRow.holds Try.pinned (OpenSpec.ofChange fnExactValidRectSpec)

/-- ITS FALSE NEIGHBOUR: 'it returns false'. Refute it at one input. -/
def fnExactValidRectWrong : ChangeSpec := { name := "fnExactValidRect", fn := fun _ => fun
  | [d] => { results := [.lit (.bool false)], args := [d] }
  | _ => none }
def FnExactValidRectWrongFalsely : Prop := fnExactValidRectRow.holds Try.pinned (OpenSpec.ofChange fnExactValidRectWrong)

/-- 'laws.FnExactValidView': WHATEVER THE INPUT: true; the input reads as it did. -/
def fnExactValidViewSpec : ChangeSpec := { name := "fnExactValidView", fn := fun _ => fun
  | [d] => { results := [.lit (.bool true)], args := [d] }
  | _ => none }
def fnExactValidViewRow : OpenClaim := { program := "ytmjegiffddffdaa", sum := "313d686e2c54ba9ba9e4da1879fcd26e944bcd1be79e97dc70b2680bfbdbcef8", func := "loop.example/widgetroom/laws.FnExactValidView", spec := "fnExactValidView", apart := false }
def FnExactValidViewSaid : Prop := fnExactValidViewRow.holds Try.pinned (OpenSpec.ofChange fnExactValidViewSpec)

/-- ITS FALSE NEIGHBOUR: 'it returns false'. Refute it at one input. -/
def fnExactValidViewWrong : ChangeSpec := { name := "fnExactValidView", fn := fun _ => fun
  | [d] => { results := [.lit (.bool false)], args := [d] }
  | _ => none }
def FnExactValidViewWrongFalsely : Prop := fnExactValidViewRow.holds Try.pinned (OpenSpec.ofChange fnExactValidViewWrong)

/-- 'laws.FnExactHasPoint': WHATEVER THE INPUT: true; the input reads as it did. -/
def fnExactHasPointSpec : ChangeSpec := { name := "fnExactHasPoint", fn := fun _ => fun
  | [d1, d2, d3] => { results := [.lit (.bool true)], args := [d1, d2, d3] }
  | _ => none }
def fnExactHasPointRow : OpenClaim := { program := "ytmjegiffddffdaa", sum := "313d686e2c54ba9ba9e4da1879fcd26e944bcd1be79e97dc70b2680bfbdbcef8", func := "loop.example/widgetroom/laws.FnExactHasPoint", spec := "fnExactHasPoint", apart := false }
def FnExactHasPointSaid : Prop := fnExactHasPointRow.holds Try.pinned (OpenSpec.ofChange fnExactHasPointSpec)

/-- ITS FALSE NEIGHBOUR: 'it returns false'. Refute it at one input. -/
def fnExactHasPointWrong : ChangeSpec := { name := "fnExactHasPoint", fn := fun _ => fun
  | [d1, d2, d3] => { results := [.lit (.bool false)], args := [d1, d2, d3] }
  | _ => none }
def FnExactHasPointWrongFalsely : Prop := fnExactHasPointRow.holds Try.pinned (OpenSpec.ofChange fnExactHasPointWrong)

/-- 'laws.FnExactAreaOf': WHATEVER THE INPUT: true; the input reads as it did. -/
def fnExactAreaOfSpec : ChangeSpec := { name := "fnExactAreaOf", fn := fun _ => fun
  | [d] => { results := [.lit (.bool true)], args := [d] }
  | _ => none }
def fnExactAreaOfRow : OpenClaim := { program := "ytmjegiffddffdaa", sum := "313d686e2c54ba9ba9e4da1879fcd26e944bcd1be79e97dc70b2680bfbdbcef8", func := "loop.example/widgetroom/laws.FnExactAreaOf", spec := "fnExactAreaOf", apart := false }
def FnExactAreaOfSaid : Prop := fnExactAreaOfRow.holds Try.pinned (OpenSpec.ofChange fnExactAreaOfSpec)

/-- ITS FALSE NEIGHBOUR: 'it returns false'. Refute it at one input. -/
def fnExactAreaOfWrong : ChangeSpec := { name := "fnExactAreaOf", fn := fun _ => fun
  | [d] => { results := [.lit (.bool false)], args := [d] }
  | _ => none }
def FnExactAreaOfWrongFalsely : Prop := fnExactAreaOfRow.holds Try.pinned (OpenSpec.ofChange fnExactAreaOfWrong)

/-- 'laws.FnExactInsideRect': WHATEVER THE INPUT: true; the input reads as it did. -/
def fnExactInsideRectSpec : ChangeSpec := { name := "fnExactInsideRect", fn := fun _ => fun
  | [d1, d2] => { results := [.lit (.bool true)], args := [d1, d2] }
  | _ => none }
def fnExactInsideRectRow : OpenClaim := { program := "ytmjegiffddffdaa", sum := "313d686e2c54ba9ba9e4da1879fcd26e944bcd1be79e97dc70b2680bfbdbcef8", func := "loop.example/widgetroom/laws.FnExactInsideRect", spec := "fnExactInsideRect", apart := false }
def FnExactInsideRectSaid : Prop := fnExactInsideRectRow.holds Try.pinned (OpenSpec.ofChange fnExactInsideRectSpec)

/-- ITS FALSE NEIGHBOUR: 'it returns false'. Refute it at one input. -/
def fnExactInsideRectWrong : ChangeSpec := { name := "fnExactInsideRect", fn := fun _ => fun
  | [d1, d2] => { results := [.lit (.bool false)], args := [d1, d2] }
  | _ => none }
def FnExactInsideRectWrongFalsely : Prop := fnExactInsideRectRow.holds Try.pinned (OpenSpec.ofChange fnExactInsideRectWrong)

/-- 'laws.FnExactValidPack': WHATEVER THE INPUT: true; the input reads as it did. -/
def fnExactValidPackSpec : ChangeSpec := { name := "fnExactValidPack", fn := fun _ => fun
  | [d] => { results := [.lit (.bool true)], args := [d] }
  | _ => none }
def fnExactValidPackRow : OpenClaim := { program := "ytmjegiffddffdaa", sum := "313d686e2c54ba9ba9e4da1879fcd26e944bcd1be79e97dc70b2680bfbdbcef8", func := "loop.example/widgetroom/laws.FnExactValidPack", spec := "fnExactValidPack", apart := false }
def FnExactValidPackSaid : Prop := fnExactValidPackRow.holds Try.pinned (OpenSpec.ofChange fnExactValidPackSpec)

/-- ITS FALSE NEIGHBOUR: 'it returns false'. Refute it at one input. -/
def fnExactValidPackWrong : ChangeSpec := { name := "fnExactValidPack", fn := fun _ => fun
  | [d] => { results := [.lit (.bool false)], args := [d] }
  | _ => none }
def FnExactValidPackWrongFalsely : Prop := fnExactValidPackRow.holds Try.pinned (OpenSpec.ofChange fnExactValidPackWrong)

/-- 'laws.FnDragSash': WHATEVER THE INPUT: true; the input reads as it did. -/
def fnDragSashSpec : ChangeSpec := { name := "fnDragSash", fn := fun _ => fun
  | [d] => { results := [.lit (.bool true)], args := [d] }
  | _ => none }
def fnDragSashRow : OpenClaim := { program := "ytmjegiffddffdaa", sum := "313d686e2c54ba9ba9e4da1879fcd26e944bcd1be79e97dc70b2680bfbdbcef8", func := "loop.example/widgetroom/laws.FnDragSash", spec := "fnDragSash", apart := false }
def FnDragSashSaid : Prop := fnDragSashRow.holds Try.pinned (OpenSpec.ofChange fnDragSashSpec)

/-- ITS FALSE NEIGHBOUR: 'it returns false'. Refute it at one input. -/
def fnDragSashWrong : ChangeSpec := { name := "fnDragSash", fn := fun _ => fun
  | [d] => { results := [.lit (.bool false)], args := [d] }
  | _ => none }
def FnDragSashWrongFalsely : Prop := fnDragSashRow.holds Try.pinned (OpenSpec.ofChange fnDragSashWrong)

/-- 'laws.FnExactThumbOf': WHATEVER THE INPUT: true; the input reads as it did. -/
def fnExactThumbOfSpec : ChangeSpec := { name := "fnExactThumbOf", fn := fun _ => fun
  | [d] => { results := [.lit (.bool true)], args := [d] }
  | _ => none }
def fnExactThumbOfRow : OpenClaim := { program := "ytmjegiffddffdaa", sum := "313d686e2c54ba9ba9e4da1879fcd26e944bcd1be79e97dc70b2680bfbdbcef8", func := "loop.example/widgetroom/laws.FnExactThumbOf", spec := "fnExactThumbOf", apart := false }
def FnExactThumbOfSaid : Prop := fnExactThumbOfRow.holds Try.pinned (OpenSpec.ofChange fnExactThumbOfSpec)

/-- ITS FALSE NEIGHBOUR: 'it returns false'. Refute it at one input. -/
def fnExactThumbOfWrong : ChangeSpec := { name := "fnExactThumbOf", fn := fun _ => fun
  | [d] => { results := [.lit (.bool false)], args := [d] }
  | _ => none }
def FnExactThumbOfWrongFalsely : Prop := fnExactThumbOfRow.holds Try.pinned (OpenSpec.ofChange fnExactThumbOfWrong)

/-- 'laws.FnExactValidPlace': WHATEVER THE INPUT: true; the input reads as it did. -/
def fnExactValidPlaceSpec : ChangeSpec := { name := "fnExactValidPlace", fn := fun _ => fun
  | [d] => { results := [.lit (.bool true)], args := [d] }
  | _ => none }
def fnExactValidPlaceRow : OpenClaim := { program := "ytmjegiffddffdaa", sum := "313d686e2c54ba9ba9e4da1879fcd26e944bcd1be79e97dc70b2680bfbdbcef8", func := "loop.example/widgetroom/laws.FnExactValidPlace", spec := "fnExactValidPlace", apart := false }
def FnExactValidPlaceSaid : Prop := fnExactValidPlaceRow.holds Try.pinned (OpenSpec.ofChange fnExactValidPlaceSpec)

/-- ITS FALSE NEIGHBOUR: 'it returns false'. Refute it at one input. -/
def fnExactValidPlaceWrong : ChangeSpec := { name := "fnExactValidPlace", fn := fun _ => fun
  | [d] => { results := [.lit (.bool false)], args := [d] }
  | _ => none }
def FnExactValidPlaceWrongFalsely : Prop := fnExactValidPlaceRow.holds Try.pinned (OpenSpec.ofChange fnExactValidPlaceWrong)

/-- 'laws.FnExactScrollBy': WHATEVER THE INPUT: true; the input reads as it did. -/
def fnExactScrollBySpec : ChangeSpec := { name := "fnExactScrollBy", fn := fun _ => fun
  | [d1, d2] => { results := [.lit (.bool true)], args := [d1, d2] }
  | _ => none }
def fnExactScrollByRow : OpenClaim := { program := "ytmjegiffddffdaa", sum := "313d686e2c54ba9ba9e4da1879fcd26e944bcd1be79e97dc70b2680bfbdbcef8", func := "loop.example/widgetroom/laws.FnExactScrollBy", spec := "fnExactScrollBy", apart := false }
def FnExactScrollBySaid : Prop := fnExactScrollByRow.holds Try.pinned (OpenSpec.ofChange fnExactScrollBySpec)

/-- ITS FALSE NEIGHBOUR: 'it returns false'. Refute it at one input. -/
def fnExactScrollByWrong : ChangeSpec := { name := "fnExactScrollBy", fn := fun _ => fun
  | [d1, d2] => { results := [.lit (.bool false)], args := [d1, d2] }
  | _ => none }
def FnExactScrollByWrongFalsely : Prop := fnExactScrollByRow.holds Try.pinned (OpenSpec.ofChange fnExactScrollByWrong)

/-- 'laws.FnExactInsetRect': WHATEVER THE INPUT: true; the input reads as it did. -/
def fnExactInsetRectSpec : ChangeSpec := { name := "fnExactInsetRect", fn := fun _ => fun
  | [d1, d2, d3] => { results := [.lit (.bool true)], args := [d1, d2, d3] }
  | _ => none }
def fnExactInsetRectRow : OpenClaim := { program := "ytmjegiffddffdaa", sum := "313d686e2c54ba9ba9e4da1879fcd26e944bcd1be79e97dc70b2680bfbdbcef8", func := "loop.example/widgetroom/laws.FnExactInsetRect", spec := "fnExactInsetRect", apart := false }
def FnExactInsetRectSaid : Prop := fnExactInsetRectRow.holds Try.pinned (OpenSpec.ofChange fnExactInsetRectSpec)

/-- ITS FALSE NEIGHBOUR: 'it returns false'. Refute it at one input. -/
def fnExactInsetRectWrong : ChangeSpec := { name := "fnExactInsetRect", fn := fun _ => fun
  | [d1, d2, d3] => { results := [.lit (.bool false)], args := [d1, d2, d3] }
  | _ => none }
def FnExactInsetRectWrongFalsely : Prop := fnExactInsetRectRow.holds Try.pinned (OpenSpec.ofChange fnExactInsetRectWrong)

/- THE SECOND FORM. 'bulk': how many values and letters a reading holds, each counted each time it is reached (what is shared counts as often as it is met; a slice's spare places count too). A statement '..UptoSaid' is the law's where the arguments, and the package variables that the reading takes, are together of bulk at most 1048576: NARROWER than '..Said'. Prove '..Said' where nothing that the law and all that it calls make is longer than what came in: it says more and counts as full. Else prove '..UptoSaid'. A law counts once. -/
mutual
def uptoBulk {H : Type} : DataW H → Nat
  | .lit (.string bytes) => bytes.length + 1
  | .lit _ => 1
  | .nil => 1
  | .ptr d => uptoBulk d + 1
  | .slice elems spare => uptoBulkAll elems + uptoBulkAll spare + 1
  | .agg parts => uptoBulkAll parts + 1
  | .iface _ d => uptoBulk d + 1
  | .map entries => uptoBulkEntries entries + 1
  | .held _ => 1
def uptoBulkAll {H : Type} : List (DataW H) → Nat
  | [] => 0
  | d :: r => uptoBulk d + uptoBulkAll r
def uptoBulkEntries {H : Type} : List (Lit × DataW H) → Nat
  | [] => 0
  | x :: r => uptoBulkEntry x + uptoBulkEntries r
def uptoBulkEntry {H : Type} : Lit × DataW H → Nat
  | (.string bytes, d) => bytes.length + uptoBulk d + 1
  | (_, d) => uptoBulk d + 1
 end
def uptoSmall : (H : Type) → List (DataW H) → Bool := fun _ ds => decide (uptoBulkAll ds ≤ 1048576)
def OpenSpec.upto (s : _root_.Go.ChangeSpec) : _root_.Go.OpenSpec := { _root_.Go.OpenSpec.ofChange s with cond := some uptoSmall }

/-- 'laws.FnExactConstants', WHERE WHAT IT READS IS OF BULK AT MOST 1048576: true; the input reads as it did. -/
def fnExactConstantsUptoRow : OpenClaim := { program := "ytmjegiffddffdaa", sum := "313d686e2c54ba9ba9e4da1879fcd26e944bcd1be79e97dc70b2680bfbdbcef8", func := "loop.example/widgetroom/laws.FnExactConstants", spec := "fnExactConstants", apart := false, narrowed := true }
def FnExactConstantsUptoSaid : Prop := fnExactConstantsUptoRow.holds Try.pinned (OpenSpec.upto fnExactConstantsSpec)

/-- 'laws.FnExactValidRect', WHERE WHAT IT READS IS OF BULK AT MOST 1048576: true; the input reads as it did. -/
def fnExactValidRectUptoRow : OpenClaim := { program := "ytmjegiffddffdaa", sum := "313d686e2c54ba9ba9e4da1879fcd26e944bcd1be79e97dc70b2680bfbdbcef8", func := "loop.example/widgetroom/laws.FnExactValidRect", spec := "fnExactValidRect", apart := false, narrowed := true }
def FnExactValidRectUptoSaid : Prop := fnExactValidRectUptoRow.holds Try.pinned (OpenSpec.upto fnExactValidRectSpec)

/-- 'laws.FnExactValidView', WHERE WHAT IT READS IS OF BULK AT MOST 1048576: true; the input reads as it did. -/
def fnExactValidViewUptoRow : OpenClaim := { program := "ytmjegiffddffdaa", sum := "313d686e2c54ba9ba9e4da1879fcd26e944bcd1be79e97dc70b2680bfbdbcef8", func := "loop.example/widgetroom/laws.FnExactValidView", spec := "fnExactValidView", apart := false, narrowed := true }
def FnExactValidViewUptoSaid : Prop := fnExactValidViewUptoRow.holds Try.pinned (OpenSpec.upto fnExactValidViewSpec)

/-- 'laws.FnExactHasPoint', WHERE WHAT IT READS IS OF BULK AT MOST 1048576: true; the input reads as it did. -/
def fnExactHasPointUptoRow : OpenClaim := { program := "ytmjegiffddffdaa", sum := "313d686e2c54ba9ba9e4da1879fcd26e944bcd1be79e97dc70b2680bfbdbcef8", func := "loop.example/widgetroom/laws.FnExactHasPoint", spec := "fnExactHasPoint", apart := false, narrowed := true }
def FnExactHasPointUptoSaid : Prop := fnExactHasPointUptoRow.holds Try.pinned (OpenSpec.upto fnExactHasPointSpec)

/-- 'laws.FnExactAreaOf', WHERE WHAT IT READS IS OF BULK AT MOST 1048576: true; the input reads as it did. -/
def fnExactAreaOfUptoRow : OpenClaim := { program := "ytmjegiffddffdaa", sum := "313d686e2c54ba9ba9e4da1879fcd26e944bcd1be79e97dc70b2680bfbdbcef8", func := "loop.example/widgetroom/laws.FnExactAreaOf", spec := "fnExactAreaOf", apart := false, narrowed := true }
def FnExactAreaOfUptoSaid : Prop := fnExactAreaOfUptoRow.holds Try.pinned (OpenSpec.upto fnExactAreaOfSpec)

/-- 'laws.FnExactInsideRect', WHERE WHAT IT READS IS OF BULK AT MOST 1048576: true; the input reads as it did. -/
def fnExactInsideRectUptoRow : OpenClaim := { program := "ytmjegiffddffdaa", sum := "313d686e2c54ba9ba9e4da1879fcd26e944bcd1be79e97dc70b2680bfbdbcef8", func := "loop.example/widgetroom/laws.FnExactInsideRect", spec := "fnExactInsideRect", apart := false, narrowed := true }
def FnExactInsideRectUptoSaid : Prop := fnExactInsideRectUptoRow.holds Try.pinned (OpenSpec.upto fnExactInsideRectSpec)

/-- 'laws.FnExactValidPack', WHERE WHAT IT READS IS OF BULK AT MOST 1048576: true; the input reads as it did. -/
def fnExactValidPackUptoRow : OpenClaim := { program := "ytmjegiffddffdaa", sum := "313d686e2c54ba9ba9e4da1879fcd26e944bcd1be79e97dc70b2680bfbdbcef8", func := "loop.example/widgetroom/laws.FnExactValidPack", spec := "fnExactValidPack", apart := false, narrowed := true }
def FnExactValidPackUptoSaid : Prop := fnExactValidPackUptoRow.holds Try.pinned (OpenSpec.upto fnExactValidPackSpec)

/-- 'laws.FnDragSash', WHERE WHAT IT READS IS OF BULK AT MOST 1048576: true; the input reads as it did. -/
def fnDragSashUptoRow : OpenClaim := { program := "ytmjegiffddffdaa", sum := "313d686e2c54ba9ba9e4da1879fcd26e944bcd1be79e97dc70b2680bfbdbcef8", func := "loop.example/widgetroom/laws.FnDragSash", spec := "fnDragSash", apart := false, narrowed := true }
def FnDragSashUptoSaid : Prop := fnDragSashUptoRow.holds Try.pinned (OpenSpec.upto fnDragSashSpec)

/-- 'laws.FnExactThumbOf', WHERE WHAT IT READS IS OF BULK AT MOST 1048576: true; the input reads as it did. -/
def fnExactThumbOfUptoRow : OpenClaim := { program := "ytmjegiffddffdaa", sum := "313d686e2c54ba9ba9e4da1879fcd26e944bcd1be79e97dc70b2680bfbdbcef8", func := "loop.example/widgetroom/laws.FnExactThumbOf", spec := "fnExactThumbOf", apart := false, narrowed := true }
def FnExactThumbOfUptoSaid : Prop := fnExactThumbOfUptoRow.holds Try.pinned (OpenSpec.upto fnExactThumbOfSpec)

/-- 'laws.FnExactValidPlace', WHERE WHAT IT READS IS OF BULK AT MOST 1048576: true; the input reads as it did. -/
def fnExactValidPlaceUptoRow : OpenClaim := { program := "ytmjegiffddffdaa", sum := "313d686e2c54ba9ba9e4da1879fcd26e944bcd1be79e97dc70b2680bfbdbcef8", func := "loop.example/widgetroom/laws.FnExactValidPlace", spec := "fnExactValidPlace", apart := false, narrowed := true }
def FnExactValidPlaceUptoSaid : Prop := fnExactValidPlaceUptoRow.holds Try.pinned (OpenSpec.upto fnExactValidPlaceSpec)

/-- 'laws.FnExactScrollBy', WHERE WHAT IT READS IS OF BULK AT MOST 1048576: true; the input reads as it did. -/
def fnExactScrollByUptoRow : OpenClaim := { program := "ytmjegiffddffdaa", sum := "313d686e2c54ba9ba9e4da1879fcd26e944bcd1be79e97dc70b2680bfbdbcef8", func := "loop.example/widgetroom/laws.FnExactScrollBy", spec := "fnExactScrollBy", apart := false, narrowed := true }
def FnExactScrollByUptoSaid : Prop := fnExactScrollByUptoRow.holds Try.pinned (OpenSpec.upto fnExactScrollBySpec)

/-- 'laws.FnExactInsetRect', WHERE WHAT IT READS IS OF BULK AT MOST 1048576: true; the input reads as it did. -/
def fnExactInsetRectUptoRow : OpenClaim := { program := "ytmjegiffddffdaa", sum := "313d686e2c54ba9ba9e4da1879fcd26e944bcd1be79e97dc70b2680bfbdbcef8", func := "loop.example/widgetroom/laws.FnExactInsetRect", spec := "fnExactInsetRect", apart := false, narrowed := true }
def FnExactInsetRectUptoSaid : Prop := fnExactInsetRectUptoRow.holds Try.pinned (OpenSpec.upto fnExactInsetRectSpec)

end Rows
end Go.Proofs.Ytmjegiffddffdaa
