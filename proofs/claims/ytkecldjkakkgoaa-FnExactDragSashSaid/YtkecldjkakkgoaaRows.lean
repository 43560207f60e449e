/-
  No cell of these rows narrows 'for every input' (looked for: loops, veiled, ifaces, maps, wideKeys, modest, calm, conditions, laid).
  DERIVED. THE GIVEN ROWS OF THIS SEAT. 12 by the template 'for every input the law returns true; each argument reads behind the call as it read before'; 0 by the template 'total and deterministic' (their statements: YtkecldjkakkgoaaTotals.lean).
  GIVEN WITH THE SEED: the statements are not yours to turn. If you find one false, say at which input.
  Laid BY PROGRAM, IN A SANDBOX (cutbox-rows.mjs): the forced cells as the released guide's own fill.sh prints them over the translation 30a8a7e7b3ed62ee… (all of the seat's roots in one cut). By AI agents, Wed Nov 11 2026. No macro, syntax, notation, axiom, sorry.
-/
import Derived.Test.YtkecldjkakkgoaaChecked
import GoSem.Claim
import GoSem.ClaimJoined
import GoSem.ClaimMapViews
import Derived.JoinedTies
import Derived.KernelRfl
namespace Go.Proofs.Ytkecldjkakkgoaa
/- THE CELL 'sum', in the pinned program and in every row, IS THE sha256 OF THE DUMP (.gsa) THAT YtkecldjkakkgoaaProg.lean LOADS. Nothing in Lean hashes anything: it is a label: what it is worth is what the hold of that sum in a sandbox is worth. -/
noncomputable def Try.pinned : Pinned := { name := "ytkecldjkakkgoaa", sum := "30a8a7e7b3ed62eeed4e38469367a2530d36ef7e1cb507397dd785f040bc1ac4", checked := Try.checked }
namespace Rows
def none {H : Type} : Left H := { results := [], args := [] }

/-- 'laws.FnExactMoveTo': WHATEVER THE INPUT: true; the input reads as it did. -/
def fnExactMoveToSpec : ChangeSpec := { name := "fnExactMoveTo", fn := fun _ => fun
  | [d1, d2] => { results := [.lit (.bool true)], args := [d1, d2] }
  | _ => none }
def fnExactMoveToRow : OpenClaim := { program := "ytkecldjkakkgoaa", sum := "30a8a7e7b3ed62eeed4e38469367a2530d36ef7e1cb507397dd785f040bc1ac4", func := "loop.example/widgetroom/laws.FnExactMoveTo", spec := "fnExactMoveTo", apart := false }
def FnExactMoveToSaid : Prop := fnExactMoveToRow.holds Try.pinned (OpenSpec.ofChange fnExactMoveToSpec)

/-- ITS FALSE NEIGHBOUR: 'it returns false'. Refute it at one input. -/
def fnExactMoveToWrong : ChangeSpec := { name := "fnExactMoveTo", fn := fun _ => fun
  | [d1, d2] => { results := [.lit (.bool false)], args := [d1, d2] }
  | _ => none }
def FnExactMoveToWrongFalsely : Prop := fnExactMoveToRow.holds Try.pinned (OpenSpec.ofChange fnExactMoveToWrong)

/-- 'laws.FnExactMoveRect': WHATEVER THE INPUT: true; the input reads as it did. -/
def fnExactMoveRectSpec : ChangeSpec := { name := "fnExactMoveRect", fn := fun _ => fun
  | [d1, d2, d3] => { results := [.lit (.bool true)], args := [d1, d2, d3] }
  | _ => none }
def fnExactMoveRectRow : OpenClaim := { program := "ytkecldjkakkgoaa", sum := "30a8a7e7b3ed62eeed4e38469367a2530d36ef7e1cb507397dd785f040bc1ac4", func := "loop.example/widgetroom/laws.FnExactMoveRect", spec := "fnExactMoveRect", apart := false }
def FnExactMoveRectSaid : Prop := fnExactMoveRectRow.holds Try.pinned (OpenSpec.ofChange fnExactMoveRectSpec)

/-- ITS FALSE NEIGHBOUR: 'it returns false'. Refute it at one input. -/
def fnExactMoveRectWrong : ChangeSpec := { name := "fnExactMoveRect", fn := fun _ => fun
  | [d1, d2, d3] => { results := [.lit (.bool false)], args := [d1, d2, d3] }
  | _ => none }
def FnExactMoveRectWrongFalsely : Prop := fnExactMoveRectRow.holds Try.pinned (OpenSpec.ofChange fnExactMoveRectWrong)

/-- 'laws.FnExactCoverRects': WHATEVER THE INPUT: true; the input reads as it did. -/
def fnExactCoverRectsSpec : ChangeSpec := { name := "fnExactCoverRects", fn := fun _ => fun
  | [d1, d2] => { results := [.lit (.bool true)], args := [d1, d2] }
  | _ => none }
def fnExactCoverRectsRow : OpenClaim := { program := "ytkecldjkakkgoaa", sum := "30a8a7e7b3ed62eeed4e38469367a2530d36ef7e1cb507397dd785f040bc1ac4", func := "loop.example/widgetroom/laws.FnExactCoverRects", spec := "fnExactCoverRects", apart := false }
def FnExactCoverRectsSaid : Prop := fnExactCoverRectsRow.holds Try.pinned (OpenSpec.ofChange fnExactCoverRectsSpec)

/-- ITS FALSE NEIGHBOUR: 'it returns false'. Refute it at one input. -/
def fnExactCoverRectsWrong : ChangeSpec := { name := "fnExactCoverRects", fn := fun _ => fun
  | [d1, d2] => { results := [.lit (.bool false)], args := [d1, d2] }
  | _ => none }
def FnExactCoverRectsWrongFalsely : Prop := fnExactCoverRectsRow.holds Try.pinned (OpenSpec.ofChange fnExactCoverRectsWrong)

/-- 'laws.FnExactDragSash': WHATEVER THE INPUT: true; the input reads as it did. -/
def fnExactDragSashSpec : ChangeSpec := { name := "fnExactDragSash", fn := fun _ => fun
  | [d1, d2, d3] => { results := [.lit (.bool true)], args := [d1, d2, d3] }
  | _ => none }
def fnExactDragSashRow : OpenClaim := { program := "ytkecldjkakkgoaa", sum := "30a8a7e7b3ed62eeed4e38469367a2530d36ef7e1cb507397dd785f040bc1ac4", func := "loop.example/widgetroom/laws.FnExactDragSash", spec := "fnExactDragSash", apart := false }
def FnExactDragSashSaid : Prop := fnExactDragSashRow.holds Try.pinned (OpenSpec.ofChange fnExactDragSashSpec)

/-- ITS FALSE NEIGHBOUR: 'it returns false'. Refute it at one input. -/
def fnExactDragSashWrong : ChangeSpec := { name := "fnExactDragSash", fn := fun _ => fun
  | [d1, d2, d3] => { results := [.lit (.bool false)], args := [d1, d2, d3] }
  | _ => none }
def FnExactDragSashWrongFalsely : Prop := fnExactDragSashRow.holds Try.pinned (OpenSpec.ofChange fnExactDragSashWrong)

/-- 'laws.FnExactSeeLine': WHATEVER THE INPUT: true; the input reads as it did. -/
def fnExactSeeLineSpec : ChangeSpec := { name := "fnExactSeeLine", fn := fun _ => fun
  | [d1, d2] => { results := [.lit (.bool true)], args := [d1, d2] }
  | _ => none }
def fnExactSeeLineRow : OpenClaim := { program := "ytkecldjkakkgoaa", sum := "30a8a7e7b3ed62eeed4e38469367a2530d36ef7e1cb507397dd785f040bc1ac4", func := "loop.example/widgetroom/laws.FnExactSeeLine", spec := "fnExactSeeLine", apart := false }
def FnExactSeeLineSaid : Prop := fnExactSeeLineRow.holds Try.pinned (OpenSpec.ofChange fnExactSeeLineSpec)

/-- ITS FALSE NEIGHBOUR: 'it returns false'. Refute it at one input. -/
def fnExactSeeLineWrong : ChangeSpec := { name := "fnExactSeeLine", fn := fun _ => fun
  | [d1, d2] => { results := [.lit (.bool false)], args := [d1, d2] }
  | _ => none }
def FnExactSeeLineWrongFalsely : Prop := fnExactSeeLineRow.holds Try.pinned (OpenSpec.ofChange fnExactSeeLineWrong)

/-- 'laws.FnExactAnchorRect': WHATEVER THE INPUT: true; the input reads as it did. -/
def fnExactAnchorRectSpec : ChangeSpec := { name := "fnExactAnchorRect", fn := fun _ => fun
  | [d1, d2, d3, d4] => { results := [.lit (.bool true)], args := [d1, d2, d3, d4] }
  | _ => none }
def fnExactAnchorRectRow : OpenClaim := { program := "ytkecldjkakkgoaa", sum := "30a8a7e7b3ed62eeed4e38469367a2530d36ef7e1cb507397dd785f040bc1ac4", func := "loop.example/widgetroom/laws.FnExactAnchorRect", spec := "fnExactAnchorRect", apart := false }
def FnExactAnchorRectSaid : Prop := fnExactAnchorRectRow.holds Try.pinned (OpenSpec.ofChange fnExactAnchorRectSpec)

/-- ITS FALSE NEIGHBOUR: 'it returns false'. Refute it at one input. -/
def fnExactAnchorRectWrong : ChangeSpec := { name := "fnExactAnchorRect", fn := fun _ => fun
  | [d1, d2, d3, d4] => { results := [.lit (.bool false)], args := [d1, d2, d3, d4] }
  | _ => none }
def FnExactAnchorRectWrongFalsely : Prop := fnExactAnchorRectRow.holds Try.pinned (OpenSpec.ofChange fnExactAnchorRectWrong)

/-- 'laws.FnValidView': WHATEVER THE INPUT: true; the input reads as it did. -/
def fnValidViewSpec : ChangeSpec := { name := "fnValidView", fn := fun _ => fun
  | [d] => { results := [.lit (.bool true)], args := [d] }
  | _ => none }
def fnValidViewRow : OpenClaim := { program := "ytkecldjkakkgoaa", sum := "30a8a7e7b3ed62eeed4e38469367a2530d36ef7e1cb507397dd785f040bc1ac4", func := "loop.example/widgetroom/laws.FnValidView", spec := "fnValidView", apart := false }
def FnValidViewSaid : Prop := fnValidViewRow.holds Try.pinned (OpenSpec.ofChange fnValidViewSpec)

/-- ITS FALSE NEIGHBOUR: 'it returns false'. Refute it at one input. -/
def fnValidViewWrong : ChangeSpec := { name := "fnValidView", fn := fun _ => fun
  | [d] => { results := [.lit (.bool false)], args := [d] }
  | _ => none }
def FnValidViewWrongFalsely : Prop := fnValidViewRow.holds Try.pinned (OpenSpec.ofChange fnValidViewWrong)

/-- 'laws.FnExactMeetRects': WHATEVER THE INPUT: true; the input reads as it did. -/
def fnExactMeetRectsSpec : ChangeSpec := { name := "fnExactMeetRects", fn := fun _ => fun
  | [d1, d2] => { results := [.lit (.bool true)], args := [d1, d2] }
  | _ => none }
def fnExactMeetRectsRow : OpenClaim := { program := "ytkecldjkakkgoaa", sum := "30a8a7e7b3ed62eeed4e38469367a2530d36ef7e1cb507397dd785f040bc1ac4", func := "loop.example/widgetroom/laws.FnExactMeetRects", spec := "fnExactMeetRects", apart := false }
def FnExactMeetRectsSaid : Prop := fnExactMeetRectsRow.holds Try.pinned (OpenSpec.ofChange fnExactMeetRectsSpec)

/-- ITS FALSE NEIGHBOUR: 'it returns false'. Refute it at one input. -/
def fnExactMeetRectsWrong : ChangeSpec := { name := "fnExactMeetRects", fn := fun _ => fun
  | [d1, d2] => { results := [.lit (.bool false)], args := [d1, d2] }
  | _ => none }
def FnExactMeetRectsWrongFalsely : Prop := fnExactMeetRectsRow.holds Try.pinned (OpenSpec.ofChange fnExactMeetRectsWrong)

/-- 'laws.FnThumbOf': WHATEVER THE INPUT: true; the input reads as it did. -/
def fnThumbOfSpec : ChangeSpec := { name := "fnThumbOf", fn := fun _ => fun
  | [d] => { results := [.lit (.bool true)], args := [d] }
  | _ => none }
def fnThumbOfRow : OpenClaim := { program := "ytkecldjkakkgoaa", sum := "30a8a7e7b3ed62eeed4e38469367a2530d36ef7e1cb507397dd785f040bc1ac4", func := "loop.example/widgetroom/laws.FnThumbOf", spec := "fnThumbOf", apart := false }
def FnThumbOfSaid : Prop := fnThumbOfRow.holds Try.pinned (OpenSpec.ofChange fnThumbOfSpec)

/-- ITS FALSE NEIGHBOUR: 'it returns false'. Refute it at one input. -/
def fnThumbOfWrong : ChangeSpec := { name := "fnThumbOf", fn := fun _ => fun
  | [d] => { results := [.lit (.bool false)], args := [d] }
  | _ => none }
def FnThumbOfWrongFalsely : Prop := fnThumbOfRow.holds Try.pinned (OpenSpec.ofChange fnThumbOfWrong)

/-- 'laws.FnValidPlace': WHATEVER THE INPUT: true; the input reads as it did. -/
def fnValidPlaceSpec : ChangeSpec := { name := "fnValidPlace", fn := fun _ => fun
  | [d] => { results := [.lit (.bool true)], args := [d] }
  | _ => none }
def fnValidPlaceRow : OpenClaim := { program := "ytkecldjkakkgoaa", sum := "30a8a7e7b3ed62eeed4e38469367a2530d36ef7e1cb507397dd785f040bc1ac4", func := "loop.example/widgetroom/laws.FnValidPlace", spec := "fnValidPlace", apart := false }
def FnValidPlaceSaid : Prop := fnValidPlaceRow.holds Try.pinned (OpenSpec.ofChange fnValidPlaceSpec)

/-- ITS FALSE NEIGHBOUR: 'it returns false'. Refute it at one input. -/
def fnValidPlaceWrong : ChangeSpec := { name := "fnValidPlace", fn := fun _ => fun
  | [d] => { results := [.lit (.bool false)], args := [d] }
  | _ => none }
def FnValidPlaceWrongFalsely : Prop := fnValidPlaceRow.holds Try.pinned (OpenSpec.ofChange fnValidPlaceWrong)

/-- 'laws.FnHasPoint': WHATEVER THE INPUT: true; the input reads as it did. -/
def fnHasPointSpec : ChangeSpec := { name := "fnHasPoint", fn := fun _ => fun
  | [d] => { results := [.lit (.bool true)], args := [d] }
  | _ => none }
def fnHasPointRow : OpenClaim := { program := "ytkecldjkakkgoaa", sum := "30a8a7e7b3ed62eeed4e38469367a2530d36ef7e1cb507397dd785f040bc1ac4", func := "loop.example/widgetroom/laws.FnHasPoint", spec := "fnHasPoint", apart := false }
def FnHasPointSaid : Prop := fnHasPointRow.holds Try.pinned (OpenSpec.ofChange fnHasPointSpec)

/-- ITS FALSE NEIGHBOUR: 'it returns false'. Refute it at one input. -/
def fnHasPointWrong : ChangeSpec := { name := "fnHasPoint", fn := fun _ => fun
  | [d] => { results := [.lit (.bool false)], args := [d] }
  | _ => none }
def FnHasPointWrongFalsely : Prop := fnHasPointRow.holds Try.pinned (OpenSpec.ofChange fnHasPointWrong)

/-- 'laws.FnExactResizePanes': WHATEVER THE INPUT: true; the input reads as it did. -/
def fnExactResizePanesSpec : ChangeSpec := { name := "fnExactResizePanes", fn := fun _ => fun
  | [d1, d2] => { results := [.lit (.bool true)], args := [d1, d2] }
  | _ => none }
def fnExactResizePanesRow : OpenClaim := { program := "ytkecldjkakkgoaa", sum := "30a8a7e7b3ed62eeed4e38469367a2530d36ef7e1cb507397dd785f040bc1ac4", func := "loop.example/widgetroom/laws.FnExactResizePanes", spec := "fnExactResizePanes", apart := false }
def FnExactResizePanesSaid : Prop := fnExactResizePanesRow.holds Try.pinned (OpenSpec.ofChange fnExactResizePanesSpec)

/-- ITS FALSE NEIGHBOUR: 'it returns false'. Refute it at one input. -/
def fnExactResizePanesWrong : ChangeSpec := { name := "fnExactResizePanes", fn := fun _ => fun
  | [d1, d2] => { results := [.lit (.bool false)], args := [d1, d2] }
  | _ => none }
def FnExactResizePanesWrongFalsely : Prop := fnExactResizePanesRow.holds Try.pinned (OpenSpec.ofChange fnExactResizePanesWrong)

/- THE SECOND FORM. 'bulk': how many values and letters a reading holds, each counted each time it is reached (what is shared counts as often as it is met; a slice's spare places count too). A statement '..UptoSaid' is the law's where the arguments, and the package variables that the reading takes, are together of bulk at most 1048576: NARROWER than '..Said'. Prove '..Said' where nothing that the law and all that it calls make is longer than what came in: it says more and counts as full. Else prove '..UptoSaid'. A law counts once. -/
mutual
def uptoBulk {H : Type} : DataW H → Nat
  | .lit (.string bytes) => bytes.length + 1
  | .lit _ => 1
  | .nil => 1
  | .ptr d => uptoBulk d + 1
  | .slice elems spare => uptoBulkAll elems + uptoBulkAll spare + 1
  | .agg parts => uptoBulkAll parts + 1
  | .iface _ d => uptoBulk d + 1
  | .map entries => uptoBulkEntries entries + 1
  | .held _ => 1
def uptoBulkAll {H : Type} : List (DataW H) → Nat
  | [] => 0
  | d :: r => uptoBulk d + uptoBulkAll r
def uptoBulkEntries {H : Type} : List (Lit × DataW H) → Nat
  | [] => 0
  | x :: r => uptoBulkEntry x + uptoBulkEntries r
def uptoBulkEntry {H : Type} : Lit × DataW H → Nat
  | (.string bytes, d) => bytes.length + uptoBulk d + 1
  | (_, d) => uptoBulk d + 1
 end
def uptoSmall : (H : Type) → List (DataW H) → Bool := fun _ ds => decide (uptoBulkAll ds ≤ 1048576)
def OpenSpec.upto (s : _root_.Go.ChangeSpec) : _root_.Go.OpenSpec := { _root_.Go.OpenSpec.ofChange s with cond := some uptoSmall }

/-- 'laws.FnExactMoveTo', WHERE WHAT IT READS IS OF BULK AT MOST 1048576: true; the input reads as it did. -/
def fnExactMoveToUptoRow : OpenClaim := { program := "ytkecldjkakkgoaa", sum := "30a8a7e7b3ed62eeed4e38469367a2530d36ef7e1cb507397dd785f040bc1ac4", func := "loop.example/widgetroom/laws.FnExactMoveTo", spec := "fnExactMoveTo", apart := false, narrowed := true }
def FnExactMoveToUptoSaid : Prop := fnExactMoveToUptoRow.holds Try.pinned (OpenSpec.upto fnExactMoveToSpec)

/-- 'laws.FnExactMoveRect', WHERE WHAT IT READS IS OF BULK AT MOST 1048576: true; the input reads as it did. -/
def fnExactMoveRectUptoRow : OpenClaim := { program := "ytkecldjkakkgoaa", sum := "30a8a7e7b3ed62eeed4e38469367a2530d36ef7e1cb507397dd785f040bc1ac4", func := "loop.example/widgetroom/laws.FnExactMoveRect", spec := "fnExactMoveRect", apart := false, narrowed := true }
def FnExactMoveRectUptoSaid : Prop := fnExactMoveRectUptoRow.holds Try.pinned (OpenSpec.upto fnExactMoveRectSpec)

/-- 'laws.FnExactCoverRects', WHERE WHAT IT READS IS OF BULK AT MOST 1048576: true; the input reads as it did. -/
def fnExactCoverRectsUptoRow : OpenClaim := { program := "ytkecldjkakkgoaa", sum := "30a8a7e7b3ed62eeed4e38469367a2530d36ef7e1cb507397dd785f040bc1ac4", func := "loop.example/widgetroom/laws.FnExactCoverRects", spec := "fnExactCoverRects", apart := false, narrowed := true }
def FnExactCoverRectsUptoSaid : Prop := fnExactCoverRectsUptoRow.holds Try.pinned (OpenSpec.upto fnExactCoverRectsSpec)

/-- 'laws.FnExactDragSash', WHERE WHAT IT READS IS OF BULK AT MOST 1048576: true; the input reads as it did. -/
def fnExactDragSashUptoRow : OpenClaim := { program := "ytkecldjkakkgoaa", sum := "30a8a7e7b3ed62eeed4e38469367a2530d36ef7e1cb507397dd785f040bc1ac4", func := "loop.example/widgetroom/laws.FnExactDragSash", spec := "fnExactDragSash", apart := false, narrowed := true }
def FnExactDragSashUptoSaid : Prop := fnExactDragSashUptoRow.holds Try.pinned (OpenSpec.upto fnExactDragSashSpec)

/-- 'laws.FnExactSeeLine', WHERE WHAT IT READS IS OF BULK AT MOST 1048576: true; the input reads as it did. -/
def fnExactSeeLineUptoRow : OpenClaim := { program := "ytkecldjkakkgoaa", sum := "30a8a7e7b3ed62eeed4e38469367a2530d36ef7e1cb507397dd785f040bc1ac4", func := "loop.example/widgetroom/laws.FnExactSeeLine", spec := "fnExactSeeLine", apart := false, narrowed := true }
def FnExactSeeLineUptoSaid : Prop := fnExactSeeLineUptoRow.holds Try.pinned (OpenSpec.upto fnExactSeeLineSpec)

/-- 'laws.FnExactAnchorRect', WHERE WHAT IT READS IS OF BULK AT MOST 1048576: true; the input reads as it did. -/
def fnExactAnchorRectUptoRow : OpenClaim := { program := "ytkecldjkakkgoaa", sum := "30a8a7e7b3ed62eeed4e38469367a2530d36ef7e1cb507397dd785f040bc1ac4", func := "loop.example/widgetroom/laws.FnExactAnchorRect", spec := "fnExactAnchorRect", apart := false, narrowed := true }
def FnExactAnchorRectUptoSaid : Prop := fnExactAnchorRectUptoRow.holds Try.pinned (OpenSpec.upto fnExactAnchorRectSpec)

/-- 'laws.FnValidView', WHERE WHAT IT READS IS OF BULK AT MOST 1048576: true; the input reads as it did. -/
def fnValidViewUptoRow : OpenClaim := { program := "ytkecldjkakkgoaa", sum := "30a8a7e7b3ed62eeed4e38469367a2530d36ef7e1cb507397dd785f040bc1ac4", func := "loop.example/widgetroom/laws.FnValidView", spec := "fnValidView", apart := false, narrowed := true }
def FnValidViewUptoSaid : Prop := fnValidViewUptoRow.holds Try.pinned (OpenSpec.upto fnValidViewSpec)

/-- 'laws.FnExactMeetRects', WHERE WHAT IT READS IS OF BULK AT MOST 1048576: true; the input reads as it did. -/
def fnExactMeetRectsUptoRow : OpenClaim := { program := "ytkecldjkakkgoaa", sum := "30a8a7e7b3ed62eeed4e38469367a2530d36ef7e1cb507397dd785f040bc1ac4", func := "loop.example/widgetroom/laws.FnExactMeetRects", spec := "fnExactMeetRects", apart := false, narrowed := true }
def FnExactMeetRectsUptoSaid : Prop := fnExactMeetRectsUptoRow.holds Try.pinned (OpenSpec.upto fnExactMeetRectsSpec)

/-- 'laws.FnThumbOf', WHERE WHAT IT READS IS OF BULK AT MOST 1048576: true; the input reads as it did. -/
def fnThumbOfUptoRow : OpenClaim := { program := "ytkecldjkakkgoaa", sum := "30a8a7e7b3ed62eeed4e38469367a2530d36ef7e1cb507397dd785f040bc1ac4", func := "loop.example/widgetroom/laws.FnThumbOf", spec := "fnThumbOf", apart := false, narrowed := true }
def FnThumbOfUptoSaid : Prop := fnThumbOfUptoRow.holds Try.pinned (OpenSpec.upto fnThumbOfSpec)

/-- 'laws.FnValidPlace', WHERE WHAT IT READS IS OF BULK AT MOST 1048576: true; the input reads as it did. -/
def fnValidPlaceUptoRow : OpenClaim := { program := "ytkecldjkakkgoaa", sum := "30a8a7e7b3ed62eeed4e38469367a2530d36ef7e1cb507397dd785f040bc1ac4", func := "loop.example/widgetroom/laws.FnValidPlace", spec := "fnValidPlace", apart := false, narrowed := true }
def FnValidPlaceUptoSaid : Prop := fnValidPlaceUptoRow.holds Try.pinned (OpenSpec.upto fnValidPlaceSpec)

/-- 'laws.FnHasPoint', WHERE WHAT IT READS IS OF BULK AT MOST 1048576: true; the input reads as it did. -/
def fnHasPointUptoRow : OpenClaim := { program := "ytkecldjkakkgoaa", sum := "30a8a7e7b3ed62eeed4e38469367a2530d36ef7e1cb507397dd785f040bc1ac4", func := "loop.example/widgetroom/laws.FnHasPoint", spec := "fnHasPoint", apart := false, narrowed := true }
def FnHasPointUptoSaid : Prop := fnHasPointUptoRow.holds Try.pinned (OpenSpec.upto fnHasPointSpec)

/-- 'laws.FnExactResizePanes', WHERE WHAT IT READS IS OF BULK AT MOST 1048576: true; the input reads as it did. -/
def fnExactResizePanesUptoRow : OpenClaim := { program := "ytkecldjkakkgoaa", sum := "30a8a7e7b3ed62eeed4e38469367a2530d36ef7e1cb507397dd785f040bc1ac4", func := "loop.example/widgetroom/laws.FnExactResizePanes", spec := "fnExactResizePanes", apart := false, narrowed := true }
def FnExactResizePanesUptoSaid : Prop := fnExactResizePanesUptoRow.holds Try.pinned (OpenSpec.upto fnExactResizePanesSpec)

end Rows
end Go.Proofs.Ytkecldjkakkgoaa
