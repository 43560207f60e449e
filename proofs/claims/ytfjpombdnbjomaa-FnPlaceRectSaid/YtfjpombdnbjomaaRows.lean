/-
  No cell of these rows narrows 'for every input' (looked for: loops, veiled, ifaces, maps, wideKeys, modest, calm, conditions, laid).
  DERIVED. THE GIVEN ROWS OF THIS SEAT. 12 by the template 'for every input the law returns true; each argument reads behind the call as it read before'; 0 by the template 'total and deterministic' (their statements: YtfjpombdnbjomaaTotals.lean).
  GIVEN WITH THE SEED: the statements are not yours to turn. If you find one false, say at which input.
  Laid BY PROGRAM, IN A SANDBOX (cutbox-rows.mjs): the forced cells as the released guide's own fill.sh prints them over the translation 64cb4ef843f78779… (all of the seat's roots in one cut). By AI agents, Wed Nov 11 2026. No macro, syntax, notation, axiom, sorry.
-/
import Derived.Test.YtfjpombdnbjomaaChecked
import GoSem.Claim
import GoSem.ClaimJoined
import GoSem.ClaimMapViews
import Derived.JoinedTies
import Derived.KernelRfl
namespace Go.Proofs.Ytfjpombdnbjomaa
/- THE CELL 'sum', in the pinned program and in every row, IS THE sha256 OF THE DUMP (.gsa) THAT YtfjpombdnbjomaaProg.lean LOADS. Nothing in Lean hashes anything: it is a label: what it is worth is what the hold of that sum in a sandbox is worth. -/
noncomputable def Try.pinned : Pinned := { name := "ytfjpombdnbjomaa", sum := "64cb4ef843f787795a9cfc5f80b1c112701fad1ae688982640a2da0f43b3701c", checked := Try.checked }
namespace Rows
def none {H : Type} : Left H := { results := [], args := [] }

/-- 'laws.FnMeetRectsPoint': WHATEVER THE INPUT: true; the input reads as it did. -/
def fnMeetRectsPointSpec : ChangeSpec := { name := "fnMeetRectsPoint", fn := fun _ => fun
  | [d] => { results := [.lit (.bool true)], args := [d] }
  | _ => none }
def fnMeetRectsPointRow : OpenClaim := { program := "ytfjpombdnbjomaa", sum := "64cb4ef843f787795a9cfc5f80b1c112701fad1ae688982640a2da0f43b3701c", func := "loop.example/widgetroom/laws.FnMeetRectsPoint", spec := "fnMeetRectsPoint", apart := false }
def FnMeetRectsPointSaid : Prop := fnMeetRectsPointRow.holds Try.pinned (OpenSpec.ofChange fnMeetRectsPointSpec)

/-- ITS FALSE NEIGHBOUR: 'it returns false'. Refute it at one input. -/
def fnMeetRectsPointWrong : ChangeSpec := { name := "fnMeetRectsPoint", fn := fun _ => fun
  | [d] => { results := [.lit (.bool false)], args := [d] }
  | _ => none }
def FnMeetRectsPointWrongFalsely : Prop := fnMeetRectsPointRow.holds Try.pinned (OpenSpec.ofChange fnMeetRectsPointWrong)

/-- 'laws.FnValidPanes': WHATEVER THE INPUT: true; the input reads as it did. -/
def fnValidPanesSpec : ChangeSpec := { name := "fnValidPanes", fn := fun _ => fun
  | [d] => { results := [.lit (.bool true)], args := [d] }
  | _ => none }
def fnValidPanesRow : OpenClaim := { program := "ytfjpombdnbjomaa", sum := "64cb4ef843f787795a9cfc5f80b1c112701fad1ae688982640a2da0f43b3701c", func := "loop.example/widgetroom/laws.FnValidPanes", spec := "fnValidPanes", apart := false }
def FnValidPanesSaid : Prop := fnValidPanesRow.holds Try.pinned (OpenSpec.ofChange fnValidPanesSpec)

/-- ITS FALSE NEIGHBOUR: 'it returns false'. Refute it at one input. -/
def fnValidPanesWrong : ChangeSpec := { name := "fnValidPanes", fn := fun _ => fun
  | [d] => { results := [.lit (.bool false)], args := [d] }
  | _ => none }
def FnValidPanesWrongFalsely : Prop := fnValidPanesRow.holds Try.pinned (OpenSpec.ofChange fnValidPanesWrong)

/-- 'laws.FnAreaOf': WHATEVER THE INPUT: true; the input reads as it did. -/
def fnAreaOfSpec : ChangeSpec := { name := "fnAreaOf", fn := fun _ => fun
  | [d] => { results := [.lit (.bool true)], args := [d] }
  | _ => none }
def fnAreaOfRow : OpenClaim := { program := "ytfjpombdnbjomaa", sum := "64cb4ef843f787795a9cfc5f80b1c112701fad1ae688982640a2da0f43b3701c", func := "loop.example/widgetroom/laws.FnAreaOf", spec := "fnAreaOf", apart := false }
def FnAreaOfSaid : Prop := fnAreaOfRow.holds Try.pinned (OpenSpec.ofChange fnAreaOfSpec)

/-- ITS FALSE NEIGHBOUR: 'it returns false'. Refute it at one input. -/
def fnAreaOfWrong : ChangeSpec := { name := "fnAreaOf", fn := fun _ => fun
  | [d] => { results := [.lit (.bool false)], args := [d] }
  | _ => none }
def FnAreaOfWrongFalsely : Prop := fnAreaOfRow.holds Try.pinned (OpenSpec.ofChange fnAreaOfWrong)

/-- 'laws.FnExactLeastInside': WHATEVER THE INPUT: true; the input reads as it did. -/
def fnExactLeastInsideSpec : ChangeSpec := { name := "fnExactLeastInside", fn := fun _ => fun
  | [d] => { results := [.lit (.bool true)], args := [d] }
  | _ => none }
def fnExactLeastInsideRow : OpenClaim := { program := "ytfjpombdnbjomaa", sum := "64cb4ef843f787795a9cfc5f80b1c112701fad1ae688982640a2da0f43b3701c", func := "loop.example/widgetroom/laws.FnExactLeastInside", spec := "fnExactLeastInside", apart := false }
def FnExactLeastInsideSaid : Prop := fnExactLeastInsideRow.holds Try.pinned (OpenSpec.ofChange fnExactLeastInsideSpec)

/-- ITS FALSE NEIGHBOUR: 'it returns false'. Refute it at one input. -/
def fnExactLeastInsideWrong : ChangeSpec := { name := "fnExactLeastInside", fn := fun _ => fun
  | [d] => { results := [.lit (.bool false)], args := [d] }
  | _ => none }
def FnExactLeastInsideWrongFalsely : Prop := fnExactLeastInsideRow.holds Try.pinned (OpenSpec.ofChange fnExactLeastInsideWrong)

/-- 'laws.FnExactValidPanes': WHATEVER THE INPUT: true; the input reads as it did. -/
def fnExactValidPanesSpec : ChangeSpec := { name := "fnExactValidPanes", fn := fun _ => fun
  | [d] => { results := [.lit (.bool true)], args := [d] }
  | _ => none }
def fnExactValidPanesRow : OpenClaim := { program := "ytfjpombdnbjomaa", sum := "64cb4ef843f787795a9cfc5f80b1c112701fad1ae688982640a2da0f43b3701c", func := "loop.example/widgetroom/laws.FnExactValidPanes", spec := "fnExactValidPanes", apart := false }
def FnExactValidPanesSaid : Prop := fnExactValidPanesRow.holds Try.pinned (OpenSpec.ofChange fnExactValidPanesSpec)

/-- ITS FALSE NEIGHBOUR: 'it returns false'. Refute it at one input. -/
def fnExactValidPanesWrong : ChangeSpec := { name := "fnExactValidPanes", fn := fun _ => fun
  | [d] => { results := [.lit (.bool false)], args := [d] }
  | _ => none }
def FnExactValidPanesWrongFalsely : Prop := fnExactValidPanesRow.holds Try.pinned (OpenSpec.ofChange fnExactValidPanesWrong)

/-- 'laws.FnExactCutRect': WHATEVER THE INPUT: true; the input reads as it did. -/
def fnExactCutRectSpec : ChangeSpec := { name := "fnExactCutRect", fn := fun _ => fun
  | [d1, d2, d3] => { results := [.lit (.bool true)], args := [d1, d2, d3] }
  | _ => none }
def fnExactCutRectRow : OpenClaim := { program := "ytfjpombdnbjomaa", sum := "64cb4ef843f787795a9cfc5f80b1c112701fad1ae688982640a2da0f43b3701c", func := "loop.example/widgetroom/laws.FnExactCutRect", spec := "fnExactCutRect", apart := false }
def FnExactCutRectSaid : Prop := fnExactCutRectRow.holds Try.pinned (OpenSpec.ofChange fnExactCutRectSpec)

/-- ITS FALSE NEIGHBOUR: 'it returns false'. Refute it at one input. -/
def fnExactCutRectWrong : ChangeSpec := { name := "fnExactCutRect", fn := fun _ => fun
  | [d1, d2, d3] => { results := [.lit (.bool false)], args := [d1, d2, d3] }
  | _ => none }
def FnExactCutRectWrongFalsely : Prop := fnExactCutRectRow.holds Try.pinned (OpenSpec.ofChange fnExactCutRectWrong)

/-- 'laws.FnMeetRects': WHATEVER THE INPUT: true; the input reads as it did. -/
def fnMeetRectsSpec : ChangeSpec := { name := "fnMeetRects", fn := fun _ => fun
  | [d] => { results := [.lit (.bool true)], args := [d] }
  | _ => none }
def fnMeetRectsRow : OpenClaim := { program := "ytfjpombdnbjomaa", sum := "64cb4ef843f787795a9cfc5f80b1c112701fad1ae688982640a2da0f43b3701c", func := "loop.example/widgetroom/laws.FnMeetRects", spec := "fnMeetRects", apart := false }
def FnMeetRectsSaid : Prop := fnMeetRectsRow.holds Try.pinned (OpenSpec.ofChange fnMeetRectsSpec)

/-- ITS FALSE NEIGHBOUR: 'it returns false'. Refute it at one input. -/
def fnMeetRectsWrong : ChangeSpec := { name := "fnMeetRects", fn := fun _ => fun
  | [d] => { results := [.lit (.bool false)], args := [d] }
  | _ => none }
def FnMeetRectsWrongFalsely : Prop := fnMeetRectsRow.holds Try.pinned (OpenSpec.ofChange fnMeetRectsWrong)

/-- 'laws.FnPlaceRect': WHATEVER THE INPUT: true; the input reads as it did. -/
def fnPlaceRectSpec : ChangeSpec := { name := "fnPlaceRect", fn := fun _ => fun
  | [d] => { results := [.lit (.bool true)], args := [d] }
  | _ => none }
def fnPlaceRectRow : OpenClaim := { program := "ytfjpombdnbjomaa", sum := "64cb4ef843f787795a9cfc5f80b1c112701fad1ae688982640a2da0f43b3701c", func := "loop.example/widgetroom/laws.FnPlaceRect", spec := "fnPlaceRect", apart := false }
def FnPlaceRectSaid : Prop := fnPlaceRectRow.holds Try.pinned (OpenSpec.ofChange fnPlaceRectSpec)

/-- ITS FALSE NEIGHBOUR: 'it returns false'. Refute it at one input. -/
def fnPlaceRectWrong : ChangeSpec := { name := "fnPlaceRect", fn := fun _ => fun
  | [d] => { results := [.lit (.bool false)], args := [d] }
  | _ => none }
def FnPlaceRectWrongFalsely : Prop := fnPlaceRectRow.holds Try.pinned (OpenSpec.ofChange fnPlaceRectWrong)

/-- 'laws.FnExactSashAt': WHATEVER THE INPUT: true; the input reads as it did. -/
def fnExactSashAtSpec : ChangeSpec := { name := "fnExactSashAt", fn := fun _ => fun
  | [d1, d2] => { results := [.lit (.bool true)], args := [d1, d2] }
  | _ => none }
def fnExactSashAtRow : OpenClaim := { program := "ytfjpombdnbjomaa", sum := "64cb4ef843f787795a9cfc5f80b1c112701fad1ae688982640a2da0f43b3701c", func := "loop.example/widgetroom/laws.FnExactSashAt", spec := "fnExactSashAt", apart := false }
def FnExactSashAtSaid : Prop := fnExactSashAtRow.holds Try.pinned (OpenSpec.ofChange fnExactSashAtSpec)

/-- ITS FALSE NEIGHBOUR: 'it returns false'. Refute it at one input. -/
def fnExactSashAtWrong : ChangeSpec := { name := "fnExactSashAt", fn := fun _ => fun
  | [d1, d2] => { results := [.lit (.bool false)], args := [d1, d2] }
  | _ => none }
def FnExactSashAtWrongFalsely : Prop := fnExactSashAtRow.holds Try.pinned (OpenSpec.ofChange fnExactSashAtWrong)

/-- 'laws.FnExactFixPlace': WHATEVER THE INPUT: true; the input reads as it did. -/
def fnExactFixPlaceSpec : ChangeSpec := { name := "fnExactFixPlace", fn := fun _ => fun
  | [d1, d2, d3] => { results := [.lit (.bool true)], args := [d1, d2, d3] }
  | _ => none }
def fnExactFixPlaceRow : OpenClaim := { program := "ytfjpombdnbjomaa", sum := "64cb4ef843f787795a9cfc5f80b1c112701fad1ae688982640a2da0f43b3701c", func := "loop.example/widgetroom/laws.FnExactFixPlace", spec := "fnExactFixPlace", apart := false }
def FnExactFixPlaceSaid : Prop := fnExactFixPlaceRow.holds Try.pinned (OpenSpec.ofChange fnExactFixPlaceSpec)

/-- ITS FALSE NEIGHBOUR: 'it returns false'. Refute it at one input. -/
def fnExactFixPlaceWrong : ChangeSpec := { name := "fnExactFixPlace", fn := fun _ => fun
  | [d1, d2, d3] => { results := [.lit (.bool false)], args := [d1, d2, d3] }
  | _ => none }
def FnExactFixPlaceWrongFalsely : Prop := fnExactFixPlaceRow.holds Try.pinned (OpenSpec.ofChange fnExactFixPlaceWrong)

/-- 'laws.FnExactPlaceAt': WHATEVER THE INPUT: true; the input reads as it did. -/
def fnExactPlaceAtSpec : ChangeSpec := { name := "fnExactPlaceAt", fn := fun _ => fun
  | [d1, d2, d3, d4, d5] => { results := [.lit (.bool true)], args := [d1, d2, d3, d4, d5] }
  | _ => none }
def fnExactPlaceAtRow : OpenClaim := { program := "ytfjpombdnbjomaa", sum := "64cb4ef843f787795a9cfc5f80b1c112701fad1ae688982640a2da0f43b3701c", func := "loop.example/widgetroom/laws.FnExactPlaceAt", spec := "fnExactPlaceAt", apart := false }
def FnExactPlaceAtSaid : Prop := fnExactPlaceAtRow.holds Try.pinned (OpenSpec.ofChange fnExactPlaceAtSpec)

/-- ITS FALSE NEIGHBOUR: 'it returns false'. Refute it at one input. -/
def fnExactPlaceAtWrong : ChangeSpec := { name := "fnExactPlaceAt", fn := fun _ => fun
  | [d1, d2, d3, d4, d5] => { results := [.lit (.bool false)], args := [d1, d2, d3, d4, d5] }
  | _ => none }
def FnExactPlaceAtWrongFalsely : Prop := fnExactPlaceAtRow.holds Try.pinned (OpenSpec.ofChange fnExactPlaceAtWrong)

/-- 'laws.FnLeastInside': WHATEVER THE INPUT: true; the input reads as it did. -/
def fnLeastInsideSpec : ChangeSpec := { name := "fnLeastInside", fn := fun _ => fun
  | [d] => { results := [.lit (.bool true)], args := [d] }
  | _ => none }
def fnLeastInsideRow : OpenClaim := { program := "ytfjpombdnbjomaa", sum := "64cb4ef843f787795a9cfc5f80b1c112701fad1ae688982640a2da0f43b3701c", func := "loop.example/widgetroom/laws.FnLeastInside", spec := "fnLeastInside", apart := false }
def FnLeastInsideSaid : Prop := fnLeastInsideRow.holds Try.pinned (OpenSpec.ofChange fnLeastInsideSpec)

/-- ITS FALSE NEIGHBOUR: 'it returns false'. Refute it at one input. -/
def fnLeastInsideWrong : ChangeSpec := { name := "fnLeastInside", fn := fun _ => fun
  | [d] => { results := [.lit (.bool false)], args := [d] }
  | _ => none }
def FnLeastInsideWrongFalsely : Prop := fnLeastInsideRow.holds Try.pinned (OpenSpec.ofChange fnLeastInsideWrong)

/- THE SECOND FORM. 'bulk': how many values and letters a reading holds, each counted each time it is reached (what is shared counts as often as it is met; a slice's spare places count too). A statement '..UptoSaid' is the law's where the arguments, and the package variables that the reading takes, are together of bulk at most 1048576: NARROWER than '..Said'. Prove '..Said' where nothing that the law and all that it calls make is longer than what came in: it says more and counts as full. Else prove '..UptoSaid'. A law counts once. -/
mutual
def uptoBulk {H : Type} : DataW H → Nat
  | .lit (.string bytes) => bytes.length + 1
  | .lit _ => 1
  | .nil => 1
  | .ptr d => uptoBulk d + 1
  | .slice elems spare => uptoBulkAll elems + uptoBulkAll spare + 1
  | .agg parts => uptoBulkAll parts + 1
  | .iface _ d => uptoBulk d + 1
  | .map entries => uptoBulkEntries entries + 1
  | .held _ => 1
def uptoBulkAll {H : Type} : List (DataW H) → Nat
  | [] => 0
  | d :: r => uptoBulk d + uptoBulkAll r
def uptoBulkEntries {H : Type} : List (Lit × DataW H) → Nat
  | [] => 0
  | x :: r => uptoBulkEntry x + uptoBulkEntries r
def uptoBulkEntry {H : Type} : Lit × DataW H → Nat
  | (.string bytes, d) => bytes.length + uptoBulk d + 1
  | (_, d) => uptoBulk d + 1
 end
def uptoSmall : (H : Type) → List (DataW H) → Bool := fun _ ds => decide (uptoBulkAll ds ≤ 1048576)
def OpenSpec.upto (s : _root_.Go.ChangeSpec) : _root_.Go.OpenSpec := { _root_.Go.OpenSpec.ofChange s with cond := some uptoSmall }

/-- 'laws.FnMeetRectsPoint', WHERE WHAT IT READS IS OF BULK AT MOST 1048576: true; the input reads as it did. -/
def fnMeetRectsPointUptoRow : OpenClaim := { program := "ytfjpombdnbjomaa", sum := "64cb4ef843f787795a9cfc5f80b1c112701fad1ae688982640a2da0f43b3701c", func := "loop.example/widgetroom/laws.FnMeetRectsPoint", spec := "fnMeetRectsPoint", apart := false, narrowed := true }
def FnMeetRectsPointUptoSaid : Prop := fnMeetRectsPointUptoRow.holds Try.pinned (OpenSpec.upto fnMeetRectsPointSpec)

/-- 'laws.FnValidPanes', WHERE WHAT IT READS IS OF BULK AT MOST 1048576: true; the input reads as it did. -/
def fnValidPanesUptoRow : OpenClaim := { program := "ytfjpombdnbjomaa", sum := "64cb4ef843f787795a9cfc5f80b1c112701fad1ae688982640a2da0f43b3701c", func := "loop.example/widgetroom/laws.FnValidPanes", spec := "fnValidPanes", apart := false, narrowed := true }
def FnValidPanesUptoSaid : Prop := fnValidPanesUptoRow.holds Try.pinned (OpenSpec.upto fnValidPanesSpec)

/-- 'laws.FnAreaOf', WHERE WHAT IT READS IS OF BULK AT MOST 1048576: true; the input reads as it did. -/
def fnAreaOfUptoRow : OpenClaim := { program := "ytfjpombdnbjomaa", sum := "64cb4ef843f787795a9cfc5f80b1c112701fad1ae688982640a2da0f43b3701c", func := "loop.example/widgetroom/laws.FnAreaOf", spec := "fnAreaOf", apart := false, narrowed := true }
def FnAreaOfUptoSaid : Prop := fnAreaOfUptoRow.holds Try.pinned (OpenSpec.upto fnAreaOfSpec)

/-- 'laws.FnExactLeastInside', WHERE WHAT IT READS IS OF BULK AT MOST 1048576: true; the input reads as it did. -/
def fnExactLeastInsideUptoRow : OpenClaim := { program := "ytfjpombdnbjomaa", sum := "64cb4ef843f787795a9cfc5f80b1c112701fad1ae688982640a2da0f43b3701c", func := "loop.example/widgetroom/laws.FnExactLeastInside", spec := "fnExactLeastInside", apart := false, narrowed := true }
def FnExactLeastInsideUptoSaid : Prop := fnExactLeastInsideUptoRow.holds Try.pinned (OpenSpec.upto fnExactLeastInsideSpec)

/-- 'laws.FnExactValidPanes', WHERE WHAT IT READS IS OF BULK AT MOST 1048576: true; the input reads as it did. -/
def fnExactValidPanesUptoRow : OpenClaim := { program := "ytfjpombdnbjomaa", sum := "64cb4ef843f787795a9cfc5f80b1c112701fad1ae688982640a2da0f43b3701c", func := "loop.example/widgetroom/laws.FnExactValidPanes", spec := "fnExactValidPanes", apart := false, narrowed := true }
def FnExactValidPanesUptoSaid : Prop := fnExactValidPanesUptoRow.holds Try.pinned (OpenSpec.upto fnExactValidPanesSpec)

/-- 'laws.FnExactCutRect', WHERE WHAT IT READS IS OF BULK AT MOST 1048576: true; the input reads as it did. -/
def fnExactCutRectUptoRow : OpenClaim := { program := "ytfjpombdnbjomaa", sum := "64cb4ef843f787795a9cfc5f80b1c112701fad1ae688982640a2da0f43b3701c", func := "loop.example/widgetroom/laws.FnExactCutRect", spec := "fnExactCutRect", apart := false, narrowed := true }
def FnExactCutRectUptoSaid : Prop := fnExactCutRectUptoRow.holds Try.pinned (OpenSpec.upto fnExactCutRectSpec)

/-- 'laws.FnMeetRects', WHERE WHAT IT READS IS OF BULK AT MOST 1048576: true; the input reads as it did. -/
def fnMeetRectsUptoRow : OpenClaim := { program := "ytfjpombdnbjomaa", sum := "64cb4ef843f787795a9cfc5f80b1c112701fad1ae688982640a2da0f43b3701c", func := "loop.example/widgetroom/laws.FnMeetRects", spec := "fnMeetRects", apart := false, narrowed := true }
def FnMeetRectsUptoSaid : Prop := fnMeetRectsUptoRow.holds Try.pinned (OpenSpec.upto fnMeetRectsSpec)

/-- 'laws.FnPlaceRect', WHERE WHAT IT READS IS OF BULK AT MOST 1048576: true; the input reads as it did. -/
def fnPlaceRectUptoRow : OpenClaim := { program := "ytfjpombdnbjomaa", sum := "64cb4ef843f787795a9cfc5f80b1c112701fad1ae688982640a2da0f43b3701c", func := "loop.example/widgetroom/laws.FnPlaceRect", spec := "fnPlaceRect", apart := false, narrowed := true }
def FnPlaceRectUptoSaid : Prop := fnPlaceRectUptoRow.holds Try.pinned (OpenSpec.upto fnPlaceRectSpec)

/-- 'laws.FnExactSashAt', WHERE WHAT IT READS IS OF BULK AT MOST 1048576: true; the input reads as it did. -/
def fnExactSashAtUptoRow : OpenClaim := { program := "ytfjpombdnbjomaa", sum := "64cb4ef843f787795a9cfc5f80b1c112701fad1ae688982640a2da0f43b3701c", func := "loop.example/widgetroom/laws.FnExactSashAt", spec := "fnExactSashAt", apart := false, narrowed := true }
def FnExactSashAtUptoSaid : Prop := fnExactSashAtUptoRow.holds Try.pinned (OpenSpec.upto fnExactSashAtSpec)

/-- 'laws.FnExactFixPlace', WHERE WHAT IT READS IS OF BULK AT MOST 1048576: true; the input reads as it did. -/
def fnExactFixPlaceUptoRow : OpenClaim := { program := "ytfjpombdnbjomaa", sum := "64cb4ef843f787795a9cfc5f80b1c112701fad1ae688982640a2da0f43b3701c", func := "loop.example/widgetroom/laws.FnExactFixPlace", spec := "fnExactFixPlace", apart := false, narrowed := true }
def FnExactFixPlaceUptoSaid : Prop := fnExactFixPlaceUptoRow.holds Try.pinned (OpenSpec.upto fnExactFixPlaceSpec)

/-- 'laws.FnExactPlaceAt', WHERE WHAT IT READS IS OF BULK AT MOST 1048576: true; the input reads as it did. -/
def fnExactPlaceAtUptoRow : OpenClaim := { program := "ytfjpombdnbjomaa", sum := "64cb4ef843f787795a9cfc5f80b1c112701fad1ae688982640a2da0f43b3701c", func := "loop.example/widgetroom/laws.FnExactPlaceAt", spec := "fnExactPlaceAt", apart := false, narrowed := true }
def FnExactPlaceAtUptoSaid : Prop := fnExactPlaceAtUptoRow.holds Try.pinned (OpenSpec.upto fnExactPlaceAtSpec)

/-- 'laws.FnLeastInside', WHERE WHAT IT READS IS OF BULK AT MOST 1048576: true; the input reads as it did. -/
def fnLeastInsideUptoRow : OpenClaim := { program := "ytfjpombdnbjomaa", sum := "64cb4ef843f787795a9cfc5f80b1c112701fad1ae688982640a2da0f43b3701c", func := "loop.example/widgetroom/laws.FnLeastInside", spec := "fnLeastInside", apart := false, narrowed := true }
def FnLeastInsideUptoSaid : Prop := fnLeastInsideUptoRow.holds Try.pinned (OpenSpec.upto fnLeastInsideSpec)

end Rows
end Go.Proofs.Ytfjpombdnbjomaa
