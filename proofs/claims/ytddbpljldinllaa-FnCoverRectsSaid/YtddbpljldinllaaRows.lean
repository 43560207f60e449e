/-
  No cell of these rows narrows 'for every input' (looked for: loops, veiled, ifaces, maps, wideKeys, modest, calm, conditions, laid).
  DERIVED. THE GIVEN ROWS OF THIS SEAT. 12 by the template 'for every input the law returns true; each argument reads behind the call as it read before'; 0 by the template 'total and deterministic' (their statements: YtddbpljldinllaaTotals.lean).
  GIVEN WITH THE SEED: the statements are not yours to turn. If you find one false, say at which input.
  Laid BY PROGRAM, IN A SANDBOX (cutbox-rows.mjs): the forced cells as the released guide's own fill.sh prints them over the translation c417a75daf4c7836… (all of the seat's roots in one cut). By AI agents, Wed Nov 11 2026. No macro, syntax, notation, axiom, sorry.
-/
import Derived.Test.YtddbpljldinllaaChecked
import GoSem.Claim
import GoSem.ClaimJoined
import GoSem.ClaimMapViews
import Derived.JoinedTies
import Derived.KernelRfl
namespace Go.Proofs.Ytddbpljldinllaa
/- THE CELL 'sum', in the pinned program and in every row, IS THE sha256 OF THE DUMP (.gsa) THAT YtddbpljldinllaaProg.lean LOADS. Nothing in Lean hashes anything: it is a label: what it is worth is what the hold of that sum in a sandbox is worth. -/
noncomputable def Try.pinned : Pinned := { name := "ytddbpljldinllaa", sum := "c417a75daf4c78363db00a586779170314641649cdc1fa77e4c4399e67eeb5ba", checked := Try.checked }
namespace Rows
def none {H : Type} : Left H := { results := [], args := [] }

/-- 'laws.FnValidPack': WHATEVER THE INPUT: true; the input reads as it did. -/
def fnValidPackSpec : ChangeSpec := { name := "fnValidPack", fn := fun _ => fun
  | [d] => { results := [.lit (.bool true)], args := [d] }
  | _ => none }
def fnValidPackRow : OpenClaim := { program := "ytddbpljldinllaa", sum := "c417a75daf4c78363db00a586779170314641649cdc1fa77e4c4399e67eeb5ba", func := "loop.example/widgetroom/laws.FnValidPack", spec := "fnValidPack", apart := false }
def FnValidPackSaid : Prop := fnValidPackRow.holds Try.pinned (OpenSpec.ofChange fnValidPackSpec)

/-- ITS FALSE NEIGHBOUR: 'it returns false'. Refute it at one input. -/
def fnValidPackWrong : ChangeSpec := { name := "fnValidPack", fn := fun _ => fun
  | [d] => { results := [.lit (.bool false)], args := [d] }
  | _ => none }
def FnValidPackWrongFalsely : Prop := fnValidPackRow.holds Try.pinned (OpenSpec.ofChange fnValidPackWrong)

/-- 'laws.FnScrollBy': WHATEVER THE INPUT: true; the input reads as it did. -/
def fnScrollBySpec : ChangeSpec := { name := "fnScrollBy", fn := fun _ => fun
  | [d] => { results := [.lit (.bool true)], args := [d] }
  | _ => none }
def fnScrollByRow : OpenClaim := { program := "ytddbpljldinllaa", sum := "c417a75daf4c78363db00a586779170314641649cdc1fa77e4c4399e67eeb5ba", func := "loop.example/widgetroom/laws.FnScrollBy", spec := "fnScrollBy", apart := false }
def FnScrollBySaid : Prop := fnScrollByRow.holds Try.pinned (OpenSpec.ofChange fnScrollBySpec)

/-- ITS FALSE NEIGHBOUR: 'it returns false'. Refute it at one input. -/
def fnScrollByWrong : ChangeSpec := { name := "fnScrollBy", fn := fun _ => fun
  | [d] => { results := [.lit (.bool false)], args := [d] }
  | _ => none }
def FnScrollByWrongFalsely : Prop := fnScrollByRow.holds Try.pinned (OpenSpec.ofChange fnScrollByWrong)

/-- 'laws.FnMoveTo': WHATEVER THE INPUT: true; the input reads as it did. -/
def fnMoveToSpec : ChangeSpec := { name := "fnMoveTo", fn := fun _ => fun
  | [d] => { results := [.lit (.bool true)], args := [d] }
  | _ => none }
def fnMoveToRow : OpenClaim := { program := "ytddbpljldinllaa", sum := "c417a75daf4c78363db00a586779170314641649cdc1fa77e4c4399e67eeb5ba", func := "loop.example/widgetroom/laws.FnMoveTo", spec := "fnMoveTo", apart := false }
def FnMoveToSaid : Prop := fnMoveToRow.holds Try.pinned (OpenSpec.ofChange fnMoveToSpec)

/-- ITS FALSE NEIGHBOUR: 'it returns false'. Refute it at one input. -/
def fnMoveToWrong : ChangeSpec := { name := "fnMoveTo", fn := fun _ => fun
  | [d] => { results := [.lit (.bool false)], args := [d] }
  | _ => none }
def FnMoveToWrongFalsely : Prop := fnMoveToRow.holds Try.pinned (OpenSpec.ofChange fnMoveToWrong)

/-- 'laws.FnValidRect': WHATEVER THE INPUT: true; the input reads as it did. -/
def fnValidRectSpec : ChangeSpec := { name := "fnValidRect", fn := fun _ => fun
  | [d] => { results := [.lit (.bool true)], args := [d] }
  | _ => none }
def fnValidRectRow : OpenClaim := { program := "ytddbpljldinllaa", sum := "c417a75daf4c78363db00a586779170314641649cdc1fa77e4c4399e67eeb5ba", func := "loop.example/widgetroom/laws.FnValidRect", spec := "fnValidRect", apart := false }
def FnValidRectSaid : Prop := fnValidRectRow.holds Try.pinned (OpenSpec.ofChange fnValidRectSpec)

/-- ITS FALSE NEIGHBOUR: 'it returns false'. Refute it at one input. -/
def fnValidRectWrong : ChangeSpec := { name := "fnValidRect", fn := fun _ => fun
  | [d] => { results := [.lit (.bool false)], args := [d] }
  | _ => none }
def FnValidRectWrongFalsely : Prop := fnValidRectRow.holds Try.pinned (OpenSpec.ofChange fnValidRectWrong)

/-- 'laws.FnExactPlaceInside': WHATEVER THE INPUT: true; the input reads as it did. -/
def fnExactPlaceInsideSpec : ChangeSpec := { name := "fnExactPlaceInside", fn := fun _ => fun
  | [d1, d2, d3] => { results := [.lit (.bool true)], args := [d1, d2, d3] }
  | _ => none }
def fnExactPlaceInsideRow : OpenClaim := { program := "ytddbpljldinllaa", sum := "c417a75daf4c78363db00a586779170314641649cdc1fa77e4c4399e67eeb5ba", func := "loop.example/widgetroom/laws.FnExactPlaceInside", spec := "fnExactPlaceInside", apart := false }
def FnExactPlaceInsideSaid : Prop := fnExactPlaceInsideRow.holds Try.pinned (OpenSpec.ofChange fnExactPlaceInsideSpec)

/-- ITS FALSE NEIGHBOUR: 'it returns false'. Refute it at one input. -/
def fnExactPlaceInsideWrong : ChangeSpec := { name := "fnExactPlaceInside", fn := fun _ => fun
  | [d1, d2, d3] => { results := [.lit (.bool false)], args := [d1, d2, d3] }
  | _ => none }
def FnExactPlaceInsideWrongFalsely : Prop := fnExactPlaceInsideRow.holds Try.pinned (OpenSpec.ofChange fnExactPlaceInsideWrong)

/-- 'laws.FnInsetRect': WHATEVER THE INPUT: true; the input reads as it did. -/
def fnInsetRectSpec : ChangeSpec := { name := "fnInsetRect", fn := fun _ => fun
  | [d] => { results := [.lit (.bool true)], args := [d] }
  | _ => none }
def fnInsetRectRow : OpenClaim := { program := "ytddbpljldinllaa", sum := "c417a75daf4c78363db00a586779170314641649cdc1fa77e4c4399e67eeb5ba", func := "loop.example/widgetroom/laws.FnInsetRect", spec := "fnInsetRect", apart := false }
def FnInsetRectSaid : Prop := fnInsetRectRow.holds Try.pinned (OpenSpec.ofChange fnInsetRectSpec)

/-- ITS FALSE NEIGHBOUR: 'it returns false'. Refute it at one input. -/
def fnInsetRectWrong : ChangeSpec := { name := "fnInsetRect", fn := fun _ => fun
  | [d] => { results := [.lit (.bool false)], args := [d] }
  | _ => none }
def FnInsetRectWrongFalsely : Prop := fnInsetRectRow.holds Try.pinned (OpenSpec.ofChange fnInsetRectWrong)

/-- 'laws.FnSeeLine': WHATEVER THE INPUT: true; the input reads as it did. -/
def fnSeeLineSpec : ChangeSpec := { name := "fnSeeLine", fn := fun _ => fun
  | [d] => { results := [.lit (.bool true)], args := [d] }
  | _ => none }
def fnSeeLineRow : OpenClaim := { program := "ytddbpljldinllaa", sum := "c417a75daf4c78363db00a586779170314641649cdc1fa77e4c4399e67eeb5ba", func := "loop.example/widgetroom/laws.FnSeeLine", spec := "fnSeeLine", apart := false }
def FnSeeLineSaid : Prop := fnSeeLineRow.holds Try.pinned (OpenSpec.ofChange fnSeeLineSpec)

/-- ITS FALSE NEIGHBOUR: 'it returns false'. Refute it at one input. -/
def fnSeeLineWrong : ChangeSpec := { name := "fnSeeLine", fn := fun _ => fun
  | [d] => { results := [.lit (.bool false)], args := [d] }
  | _ => none }
def FnSeeLineWrongFalsely : Prop := fnSeeLineRow.holds Try.pinned (OpenSpec.ofChange fnSeeLineWrong)

/-- 'laws.FnInsideRect': WHATEVER THE INPUT: true; the input reads as it did. -/
def fnInsideRectSpec : ChangeSpec := { name := "fnInsideRect", fn := fun _ => fun
  | [d] => { results := [.lit (.bool true)], args := [d] }
  | _ => none }
def fnInsideRectRow : OpenClaim := { program := "ytddbpljldinllaa", sum := "c417a75daf4c78363db00a586779170314641649cdc1fa77e4c4399e67eeb5ba", func := "loop.example/widgetroom/laws.FnInsideRect", spec := "fnInsideRect", apart := false }
def FnInsideRectSaid : Prop := fnInsideRectRow.holds Try.pinned (OpenSpec.ofChange fnInsideRectSpec)

/-- ITS FALSE NEIGHBOUR: 'it returns false'. Refute it at one input. -/
def fnInsideRectWrong : ChangeSpec := { name := "fnInsideRect", fn := fun _ => fun
  | [d] => { results := [.lit (.bool false)], args := [d] }
  | _ => none }
def FnInsideRectWrongFalsely : Prop := fnInsideRectRow.holds Try.pinned (OpenSpec.ofChange fnInsideRectWrong)

/-- 'laws.FnMoveRect': WHATEVER THE INPUT: true; the input reads as it did. -/
def fnMoveRectSpec : ChangeSpec := { name := "fnMoveRect", fn := fun _ => fun
  | [d] => { results := [.lit (.bool true)], args := [d] }
  | _ => none }
def fnMoveRectRow : OpenClaim := { program := "ytddbpljldinllaa", sum := "c417a75daf4c78363db00a586779170314641649cdc1fa77e4c4399e67eeb5ba", func := "loop.example/widgetroom/laws.FnMoveRect", spec := "fnMoveRect", apart := false }
def FnMoveRectSaid : Prop := fnMoveRectRow.holds Try.pinned (OpenSpec.ofChange fnMoveRectSpec)

/-- ITS FALSE NEIGHBOUR: 'it returns false'. Refute it at one input. -/
def fnMoveRectWrong : ChangeSpec := { name := "fnMoveRect", fn := fun _ => fun
  | [d] => { results := [.lit (.bool false)], args := [d] }
  | _ => none }
def FnMoveRectWrongFalsely : Prop := fnMoveRectRow.holds Try.pinned (OpenSpec.ofChange fnMoveRectWrong)

/-- 'laws.FnExactPlaceRect': WHATEVER THE INPUT: true; the input reads as it did. -/
def fnExactPlaceRectSpec : ChangeSpec := { name := "fnExactPlaceRect", fn := fun _ => fun
  | [d1, d2, d3] => { results := [.lit (.bool true)], args := [d1, d2, d3] }
  | _ => none }
def fnExactPlaceRectRow : OpenClaim := { program := "ytddbpljldinllaa", sum := "c417a75daf4c78363db00a586779170314641649cdc1fa77e4c4399e67eeb5ba", func := "loop.example/widgetroom/laws.FnExactPlaceRect", spec := "fnExactPlaceRect", apart := false }
def FnExactPlaceRectSaid : Prop := fnExactPlaceRectRow.holds Try.pinned (OpenSpec.ofChange fnExactPlaceRectSpec)

/-- ITS FALSE NEIGHBOUR: 'it returns false'. Refute it at one input. -/
def fnExactPlaceRectWrong : ChangeSpec := { name := "fnExactPlaceRect", fn := fun _ => fun
  | [d1, d2, d3] => { results := [.lit (.bool false)], args := [d1, d2, d3] }
  | _ => none }
def FnExactPlaceRectWrongFalsely : Prop := fnExactPlaceRectRow.holds Try.pinned (OpenSpec.ofChange fnExactPlaceRectWrong)

/-- 'laws.FnAnchorRect': WHATEVER THE INPUT: true; the input reads as it did. -/
def fnAnchorRectSpec : ChangeSpec := { name := "fnAnchorRect", fn := fun _ => fun
  | [d] => { results := [.lit (.bool true)], args := [d] }
  | _ => none }
def fnAnchorRectRow : OpenClaim := { program := "ytddbpljldinllaa", sum := "c417a75daf4c78363db00a586779170314641649cdc1fa77e4c4399e67eeb5ba", func := "loop.example/widgetroom/laws.FnAnchorRect", spec := "fnAnchorRect", apart := false }
def FnAnchorRectSaid : Prop := fnAnchorRectRow.holds Try.pinned (OpenSpec.ofChange fnAnchorRectSpec)

/-- ITS FALSE NEIGHBOUR: 'it returns false'. Refute it at one input. -/
def fnAnchorRectWrong : ChangeSpec := { name := "fnAnchorRect", fn := fun _ => fun
  | [d] => { results := [.lit (.bool false)], args := [d] }
  | _ => none }
def FnAnchorRectWrongFalsely : Prop := fnAnchorRectRow.holds Try.pinned (OpenSpec.ofChange fnAnchorRectWrong)

/-- 'laws.FnCoverRects': WHATEVER THE INPUT: true; the input reads as it did. -/
def fnCoverRectsSpec : ChangeSpec := { name := "fnCoverRects", fn := fun _ => fun
  | [d] => { results := [.lit (.bool true)], args := [d] }
  | _ => none }
def fnCoverRectsRow : OpenClaim := { program := "ytddbpljldinllaa", sum := "c417a75daf4c78363db00a586779170314641649cdc1fa77e4c4399e67eeb5ba", func := "loop.example/widgetroom/laws.FnCoverRects", spec := "fnCoverRects", apart := false }
def FnCoverRectsSaid : Prop := fnCoverRectsRow.holds Try.pinned (OpenSpec.ofChange fnCoverRectsSpec)

/-- ITS FALSE NEIGHBOUR: 'it returns false'. Refute it at one input. -/
def fnCoverRectsWrong : ChangeSpec := { name := "fnCoverRects", fn := fun _ => fun
  | [d] => { results := [.lit (.bool false)], args := [d] }
  | _ => none }
def FnCoverRectsWrongFalsely : Prop := fnCoverRectsRow.holds Try.pinned (OpenSpec.ofChange fnCoverRectsWrong)

/- THE SECOND FORM. 'bulk': how many values and letters a reading holds, each counted each time it is reached (what is shared counts as often as it is met; a slice's spare places count too). A statement '..UptoSaid' is the law's where the arguments, and the package variables that the reading takes, are together of bulk at most 1048576: NARROWER than '..Said'. Prove '..Said' where nothing that the law and all that it calls make is longer than what came in: it says more and counts as full. Else prove '..UptoSaid'. A law counts once. -/
mutual
def uptoBulk {H : Type} : DataW H → Nat
  | .lit (.string bytes) => bytes.length + 1
  | .lit _ => 1
  | .nil => 1
  | .ptr d => uptoBulk d + 1
  | .slice elems spare => uptoBulkAll elems + uptoBulkAll spare + 1
  | .agg parts => uptoBulkAll parts + 1
  | .iface _ d => uptoBulk d + 1
  | .map entries => uptoBulkEntries entries + 1
  | .held _ => 1
def uptoBulkAll {H : Type} : List (DataW H) → Nat
  | [] => 0
  | d :: r => uptoBulk d + uptoBulkAll r
def uptoBulkEntries {H : Type} : List (Lit × DataW H) → Nat
  | [] => 0
  | x :: r => uptoBulkEntry x + uptoBulkEntries r
def uptoBulkEntry {H : Type} : Lit × DataW H → Nat
  | (.string bytes, d) => bytes.length + uptoBulk d + 1
  | (_, d) => uptoBulk d + 1
 end
def uptoSmall : (H : Type) → List (DataW H) → Bool := fun _ ds => decide (uptoBulkAll ds ≤ 1048576)
def OpenSpec.upto (s : _root_.Go.ChangeSpec) : _root_.Go.OpenSpec := { _root_.Go.OpenSpec.ofChange s with cond := some uptoSmall }

/-- 'laws.FnValidPack', WHERE WHAT IT READS IS OF BULK AT MOST 1048576: true; the input reads as it did. -/
def fnValidPackUptoRow : OpenClaim := { program := "ytddbpljldinllaa", sum := "c417a75daf4c78363db00a586779170314641649cdc1fa77e4c4399e67eeb5ba", func := "loop.example/widgetroom/laws.FnValidPack", spec := "fnValidPack", apart := false, narrowed := true }
def FnValidPackUptoSaid : Prop := fnValidPackUptoRow.holds Try.pinned (OpenSpec.upto fnValidPackSpec)

/-- 'laws.FnScrollBy', WHERE WHAT IT READS IS OF BULK AT MOST 1048576: true; the input reads as it did. -/
def fnScrollByUptoRow : OpenClaim := { program := "ytddbpljldinllaa", sum := "c417a75daf4c78363db00a586779170314641649cdc1fa77e4c4399e67eeb5ba", func := "loop.example/widgetroom/laws.FnScrollBy", spec := "fnScrollBy", apart := false, narrowed := true }
def FnScrollByUptoSaid : Prop := fnScrollByUptoRow.holds Try.pinned (OpenSpec.upto fnScrollBySpec)

/-- 'laws.FnMoveTo', WHERE WHAT IT READS IS OF BULK AT MOST 1048576: true; the input reads as it did. -/
def fnMoveToUptoRow : OpenClaim := { program := "ytddbpljldinllaa", sum := "c417a75daf4c78363db00a586779170314641649cdc1fa77e4c4399e67eeb5ba", func := "loop.example/widgetroom/laws.FnMoveTo", spec := "fnMoveTo", apart := false, narrowed := true }
def FnMoveToUptoSaid : Prop := fnMoveToUptoRow.holds Try.pinned (OpenSpec.upto fnMoveToSpec)

/-- 'laws.FnValidRect', WHERE WHAT IT READS IS OF BULK AT MOST 1048576: true; the input reads as it did. -/
def fnValidRectUptoRow : OpenClaim := { program := "ytddbpljldinllaa", sum := "c417a75daf4c78363db00a586779170314641649cdc1fa77e4c4399e67eeb5ba", func := "loop.example/widgetroom/laws.FnValidRect", spec := "fnValidRect", apart := false, narrowed := true }
def FnValidRectUptoSaid : Prop := fnValidRectUptoRow.holds Try.pinned (OpenSpec.upto fnValidRectSpec)

/-- 'laws.FnExactPlaceInside', WHERE WHAT IT READS IS OF BULK AT MOST 1048576: true; the input reads as it did. -/
def fnExactPlaceInsideUptoRow : OpenClaim := { program := "ytddbpljldinllaa", sum := "c417a75daf4c78363db00a586779170314641649cdc1fa77e4c4399e67eeb5ba", func := "loop.example/widgetroom/laws.FnExactPlaceInside", spec := "fnExactPlaceInside", apart := false, narrowed := true }
def FnExactPlaceInsideUptoSaid : Prop := fnExactPlaceInsideUptoRow.holds Try.pinned (OpenSpec.upto fnExactPlaceInsideSpec)

/-- 'laws.FnInsetRect', WHERE WHAT IT READS IS OF BULK AT MOST 1048576: true; the input reads as it did. -/
def fnInsetRectUptoRow : OpenClaim := { program := "ytddbpljldinllaa", sum := "c417a75daf4c78363db00a586779170314641649cdc1fa77e4c4399e67eeb5ba", func := "loop.example/widgetroom/laws.FnInsetRect", spec := "fnInsetRect", apart := false, narrowed := true }
def FnInsetRectUptoSaid : Prop := fnInsetRectUptoRow.holds Try.pinned (OpenSpec.upto fnInsetRectSpec)

/-- 'laws.FnSeeLine', WHERE WHAT IT READS IS OF BULK AT MOST 1048576: true; the input reads as it did. -/
def fnSeeLineUptoRow : OpenClaim := { program := "ytddbpljldinllaa", sum := "c417a75daf4c78363db00a586779170314641649cdc1fa77e4c4399e67eeb5ba", func := "loop.example/widgetroom/laws.FnSeeLine", spec := "fnSeeLine", apart := false, narrowed := true }
def FnSeeLineUptoSaid : Prop := fnSeeLineUptoRow.holds Try.pinned (OpenSpec.upto fnSeeLineSpec)

/-- 'laws.FnInsideRect', WHERE WHAT IT READS IS OF BULK AT MOST 1048576: true; the input reads as it did. -/
def fnInsideRectUptoRow : OpenClaim := { program := "ytddbpljldinllaa", sum := "c417a75daf4c78363db00a586779170314641649cdc1fa77e4c4399e67eeb5ba", func := "loop.example/widgetroom/laws.FnInsideRect", spec := "fnInsideRect", apart := false, narrowed := true }
def FnInsideRectUptoSaid : Prop := fnInsideRectUptoRow.holds Try.pinned (OpenSpec.upto fnInsideRectSpec)

/-- 'laws.FnMoveRect', WHERE WHAT IT READS IS OF BULK AT MOST 1048576: true; the input reads as it did. -/
def fnMoveRectUptoRow : OpenClaim := { program := "ytddbpljldinllaa", sum := "c417a75daf4c78363db00a586779170314641649cdc1fa77e4c4399e67eeb5ba", func := "loop.example/widgetroom/laws.FnMoveRect", spec := "fnMoveRect", apart := false, narrowed := true }
def FnMoveRectUptoSaid : Prop := fnMoveRectUptoRow.holds Try.pinned (OpenSpec.upto fnMoveRectSpec)

/-- 'laws.FnExactPlaceRect', WHERE WHAT IT READS IS OF BULK AT MOST 1048576: true; the input reads as it did. -/
def fnExactPlaceRectUptoRow : OpenClaim := { program := "ytddbpljldinllaa", sum := "c417a75daf4c78363db00a586779170314641649cdc1fa77e4c4399e67eeb5ba", func := "loop.example/widgetroom/laws.FnExactPlaceRect", spec := "fnExactPlaceRect", apart := false, narrowed := true }
def FnExactPlaceRectUptoSaid : Prop := fnExactPlaceRectUptoRow.holds Try.pinned (OpenSpec.upto fnExactPlaceRectSpec)

/-- 'laws.FnAnchorRect', WHERE WHAT IT READS IS OF BULK AT MOST 1048576: true; the input reads as it did. -/
def fnAnchorRectUptoRow : OpenClaim := { program := "ytddbpljldinllaa", sum := "c417a75daf4c78363db00a586779170314641649cdc1fa77e4c4399e67eeb5ba", func := "loop.example/widgetroom/laws.FnAnchorRect", spec := "fnAnchorRect", apart := false, narrowed := true }
def FnAnchorRectUptoSaid : Prop := fnAnchorRectUptoRow.holds Try.pinned (OpenSpec.upto fnAnchorRectSpec)

/-- 'laws.FnCoverRects', WHERE WHAT IT READS IS OF BULK AT MOST 1048576: true; the input reads as it did. -/
def fnCoverRectsUptoRow : OpenClaim := { program := "ytddbpljldinllaa", sum := "c417a75daf4c78363db00a586779170314641649cdc1fa77e4c4399e67eeb5ba", func := "loop.example/widgetroom/laws.FnCoverRects", spec := "fnCoverRects", apart := false, narrowed := true }
def FnCoverRectsUptoSaid : Prop := fnCoverRectsUptoRow.holds Try.pinned (OpenSpec.upto fnCoverRectsSpec)

end Rows
end Go.Proofs.Ytddbpljldinllaa
