/-
  No cell of these rows narrows 'for every input' (looked for: loops, veiled, ifaces, maps, wideKeys, modest, calm, conditions, laid).
  DERIVED. THE GIVEN ROWS OF THIS SEAT. 10 by the template 'for every input the law returns true; each argument reads behind the call as it read before'; 0 by the template 'total and deterministic' (their statements: YtaaflpnhdkoaeaaGreatTotals.lean).
  GIVEN WITH THE SEED: the statements are not yours to turn. If you find one false, say at which input.
  Laid BY PROGRAM, IN A SANDBOX (cutbox-rows.mjs): the forced cells as the released guide's own fill.sh prints them over the translation cb01a484ae421451… (all of the seat's roots in one cut). By AI agents, Wed Nov 11 2026. No macro, syntax, notation, axiom, sorry.
-/
import Derived.Test.YtaaflpnhdkoaeaaGreatChecked
import GoSem.Claim
import GoSem.ClaimJoined
import GoSem.ClaimMapViews
import Derived.JoinedTies
import Derived.KernelRfl
namespace Go.Proofs.YtaaflpnhdkoaeaaGreat
/- THE CELL 'sum', in the pinned program and in every row, IS THE sha256 OF THE DUMP (.gsa) THAT YtaaflpnhdkoaeaaGreatProg.lean LOADS. Nothing in Lean hashes anything: it is a label: what it is worth is what the hold of that sum in a sandbox is worth. -/
noncomputable def Tryz.pinned : Pinned := { name := "ytaaflpnhdkoaeaagreat", sum := "cb01a484ae421451deed21e541e50cbacdac1d1f08b809d9d859fabadf51cff3", checked := Tryz.checked }
namespace Rows
def none {H : Type} : Left H := { results := [], args := [] }

/-- 'jettylaw13.TreeMap': WHATEVER THE INPUT: true; the input reads as it did. -/
def treeMapSpec : ChangeSpec := { name := "treeMap", fn := fun _ => fun
  | [d1, d2] => { results := [.lit (.bool true)], args := [d1, d2] }
  | _ => none }
def treeMapRow : OpenClaim := { program := "ytaaflpnhdkoaeaagreat", sum := "cb01a484ae421451deed21e541e50cbacdac1d1f08b809d9d859fabadf51cff3", func := "jetty/jettylaw13.TreeMap", spec := "treeMap", inPlace := ["slices.overlaps[string]"], unfollowed := true, recurses := true, plainKeys := false, apart := false }
def TreeMapSaid : Prop := treeMapRow.holds Tryz.pinned (OpenSpec.ofChange treeMapSpec)

/-- ITS FALSE NEIGHBOUR: 'it returns false'. Refute it at one input. -/
def treeMapWrong : ChangeSpec := { name := "treeMap", fn := fun _ => fun
  | [d1, d2] => { results := [.lit (.bool false)], args := [d1, d2] }
  | _ => none }
def TreeMapWrongFalsely : Prop := treeMapRow.holds Tryz.pinned (OpenSpec.ofChange treeMapWrong)

/-- 'jettylaw13.TreeOld': WHATEVER THE INPUT: true; the input reads as it did. -/
def treeOldSpec : ChangeSpec := { name := "treeOld", fn := fun _ => fun
  | [d] => { results := [.lit (.bool true)], args := [d] }
  | _ => none }
def treeOldRow : OpenClaim := { program := "ytaaflpnhdkoaeaagreat", sum := "cb01a484ae421451deed21e541e50cbacdac1d1f08b809d9d859fabadf51cff3", func := "jetty/jettylaw13.TreeOld", spec := "treeOld", inPlace := ["slices.overlaps[string]"], unfollowed := true, recurses := true, plainKeys := false, apart := false }
def TreeOldSaid : Prop := treeOldRow.holds Tryz.pinned (OpenSpec.ofChange treeOldSpec)

/-- ITS FALSE NEIGHBOUR: 'it returns false'. Refute it at one input. -/
def treeOldWrong : ChangeSpec := { name := "treeOld", fn := fun _ => fun
  | [d] => { results := [.lit (.bool false)], args := [d] }
  | _ => none }
def TreeOldWrongFalsely : Prop := treeOldRow.holds Tryz.pinned (OpenSpec.ofChange treeOldWrong)

/-- 'jettylaw13.TreeByte': WHATEVER THE INPUT: true; the input reads as it did. -/
def treeByteSpec : ChangeSpec := { name := "treeByte", fn := fun _ => fun
  | [d1, d2, d3, d4] => { results := [.lit (.bool true)], args := [d1, d2, d3, d4] }
  | _ => none }
def treeByteRow : OpenClaim := { program := "ytaaflpnhdkoaeaagreat", sum := "cb01a484ae421451deed21e541e50cbacdac1d1f08b809d9d859fabadf51cff3", func := "jetty/jettylaw13.TreeByte", spec := "treeByte", inPlace := ["slices.overlaps[string]", "maps.clone"], unfollowed := true, recurses := true, plainKeys := false, apart := false }
def TreeByteSaid : Prop := treeByteRow.holds Tryz.pinned (OpenSpec.ofChange treeByteSpec)

/-- ITS FALSE NEIGHBOUR: 'it returns false'. Refute it at one input. -/
def treeByteWrong : ChangeSpec := { name := "treeByte", fn := fun _ => fun
  | [d1, d2, d3, d4] => { results := [.lit (.bool false)], args := [d1, d2, d3, d4] }
  | _ => none }
def TreeByteWrongFalsely : Prop := treeByteRow.holds Tryz.pinned (OpenSpec.ofChange treeByteWrong)

/-- 'jettylaw13.TreeShape': WHATEVER THE INPUT: true; the input reads as it did. -/
def treeShapeSpec : ChangeSpec := { name := "treeShape", fn := fun _ => fun
  | [d] => { results := [.lit (.bool true)], args := [d] }
  | _ => none }
def treeShapeRow : OpenClaim := { program := "ytaaflpnhdkoaeaagreat", sum := "cb01a484ae421451deed21e541e50cbacdac1d1f08b809d9d859fabadf51cff3", func := "jetty/jettylaw13.TreeShape", spec := "treeShape", inPlace := ["slices.overlaps[string]"], unfollowed := true, recurses := true, plainKeys := false, apart := false }
def TreeShapeSaid : Prop := treeShapeRow.holds Tryz.pinned (OpenSpec.ofChange treeShapeSpec)

/-- ITS FALSE NEIGHBOUR: 'it returns false'. Refute it at one input. -/
def treeShapeWrong : ChangeSpec := { name := "treeShape", fn := fun _ => fun
  | [d] => { results := [.lit (.bool false)], args := [d] }
  | _ => none }
def TreeShapeWrongFalsely : Prop := treeShapeRow.holds Tryz.pinned (OpenSpec.ofChange treeShapeWrong)

/-- 'jettylaw13.TreePlays': WHATEVER THE INPUT: true; the input reads as it did. -/
def treePlaysSpec : ChangeSpec := { name := "treePlays", fn := fun _ => fun
  | [d1, d2, d3] => { results := [.lit (.bool true)], args := [d1, d2, d3] }
  | _ => none }
def treePlaysRow : OpenClaim := { program := "ytaaflpnhdkoaeaagreat", sum := "cb01a484ae421451deed21e541e50cbacdac1d1f08b809d9d859fabadf51cff3", func := "jetty/jettylaw13.TreePlays", spec := "treePlays", inPlace := ["slices.overlaps[string]", "maps.clone"], unfollowed := true, recurses := true, plainKeys := false, apart := false }
def TreePlaysSaid : Prop := treePlaysRow.holds Tryz.pinned (OpenSpec.ofChange treePlaysSpec)

/-- ITS FALSE NEIGHBOUR: 'it returns false'. Refute it at one input. -/
def treePlaysWrong : ChangeSpec := { name := "treePlays", fn := fun _ => fun
  | [d1, d2, d3] => { results := [.lit (.bool false)], args := [d1, d2, d3] }
  | _ => none }
def TreePlaysWrongFalsely : Prop := treePlaysRow.holds Tryz.pinned (OpenSpec.ofChange treePlaysWrong)

/-- 'jettylaw14.WalkRanges': WHATEVER THE INPUT: true; the input reads as it did. -/
def walkRangesSpec : ChangeSpec := { name := "walkRanges", fn := fun _ => fun
  | [d1, d2, d3, d4] => { results := [.lit (.bool true)], args := [d1, d2, d3, d4] }
  | _ => none }
def walkRangesRow : OpenClaim := { program := "ytaaflpnhdkoaeaagreat", sum := "cb01a484ae421451deed21e541e50cbacdac1d1f08b809d9d859fabadf51cff3", func := "jetty/jettylaw14.WalkRanges", spec := "walkRanges", inPlace := ["slices.overlaps[string]"], unfollowed := true, recurses := true, plainKeys := false, apart := false }
def WalkRangesSaid : Prop := walkRangesRow.holds Tryz.pinned (OpenSpec.ofChange walkRangesSpec)

/-- ITS FALSE NEIGHBOUR: 'it returns false'. Refute it at one input. -/
def walkRangesWrong : ChangeSpec := { name := "walkRanges", fn := fun _ => fun
  | [d1, d2, d3, d4] => { results := [.lit (.bool false)], args := [d1, d2, d3, d4] }
  | _ => none }
def WalkRangesWrongFalsely : Prop := walkRangesRow.holds Tryz.pinned (OpenSpec.ofChange walkRangesWrong)

/-- 'jettylaw14.WalkParts': WHATEVER THE INPUT: true; the input reads as it did. -/
def walkPartsSpec : ChangeSpec := { name := "walkParts", fn := fun _ => fun
  | [d1, d2, d3, d4] => { results := [.lit (.bool true)], args := [d1, d2, d3, d4] }
  | _ => none }
def walkPartsRow : OpenClaim := { program := "ytaaflpnhdkoaeaagreat", sum := "cb01a484ae421451deed21e541e50cbacdac1d1f08b809d9d859fabadf51cff3", func := "jetty/jettylaw14.WalkParts", spec := "walkParts", inPlace := ["slices.overlaps[string]"], unfollowed := true, recurses := true, plainKeys := false, apart := false }
def WalkPartsSaid : Prop := walkPartsRow.holds Tryz.pinned (OpenSpec.ofChange walkPartsSpec)

/-- ITS FALSE NEIGHBOUR: 'it returns false'. Refute it at one input. -/
def walkPartsWrong : ChangeSpec := { name := "walkParts", fn := fun _ => fun
  | [d1, d2, d3, d4] => { results := [.lit (.bool false)], args := [d1, d2, d3, d4] }
  | _ => none }
def WalkPartsWrongFalsely : Prop := walkPartsRow.holds Tryz.pinned (OpenSpec.ofChange walkPartsWrong)

/-- 'jettylaw14.WalkBlocks': WHATEVER THE INPUT: true; the input reads as it did. -/
def walkBlocksSpec : ChangeSpec := { name := "walkBlocks", fn := fun _ => fun
  | [d] => { results := [.lit (.bool true)], args := [d] }
  | _ => none }
def walkBlocksRow : OpenClaim := { program := "ytaaflpnhdkoaeaagreat", sum := "cb01a484ae421451deed21e541e50cbacdac1d1f08b809d9d859fabadf51cff3", func := "jetty/jettylaw14.WalkBlocks", spec := "walkBlocks", inPlace := ["slices.overlaps[string]"], unfollowed := true, recurses := true, plainKeys := false, apart := false }
def WalkBlocksSaid : Prop := walkBlocksRow.holds Tryz.pinned (OpenSpec.ofChange walkBlocksSpec)

/-- ITS FALSE NEIGHBOUR: 'it returns false'. Refute it at one input. -/
def walkBlocksWrong : ChangeSpec := { name := "walkBlocks", fn := fun _ => fun
  | [d] => { results := [.lit (.bool false)], args := [d] }
  | _ => none }
def WalkBlocksWrongFalsely : Prop := walkBlocksRow.holds Tryz.pinned (OpenSpec.ofChange walkBlocksWrong)

/-- 'jettylaw14.WalkDiffs': WHATEVER THE INPUT: true; the input reads as it did. -/
def walkDiffsSpec : ChangeSpec := { name := "walkDiffs", fn := fun _ => fun
  | [d1, d2, d3] => { results := [.lit (.bool true)], args := [d1, d2, d3] }
  | _ => none }
def walkDiffsRow : OpenClaim := { program := "ytaaflpnhdkoaeaagreat", sum := "cb01a484ae421451deed21e541e50cbacdac1d1f08b809d9d859fabadf51cff3", func := "jetty/jettylaw14.WalkDiffs", spec := "walkDiffs", inPlace := ["slices.overlaps[string]", "maps.clone"], unfollowed := true, recurses := true, plainKeys := false, apart := false }
def WalkDiffsSaid : Prop := walkDiffsRow.holds Tryz.pinned (OpenSpec.ofChange walkDiffsSpec)

/-- ITS FALSE NEIGHBOUR: 'it returns false'. Refute it at one input. -/
def walkDiffsWrong : ChangeSpec := { name := "walkDiffs", fn := fun _ => fun
  | [d1, d2, d3] => { results := [.lit (.bool false)], args := [d1, d2, d3] }
  | _ => none }
def WalkDiffsWrongFalsely : Prop := walkDiffsRow.holds Tryz.pinned (OpenSpec.ofChange walkDiffsWrong)

/-- 'jettylaw14.WalkMakes': WHATEVER THE INPUT: true; the input reads as it did. -/
def walkMakesSpec : ChangeSpec := { name := "walkMakes", fn := fun _ => fun
  | [d1, d2] => { results := [.lit (.bool true)], args := [d1, d2] }
  | _ => none }
def walkMakesRow : OpenClaim := { program := "ytaaflpnhdkoaeaagreat", sum := "cb01a484ae421451deed21e541e50cbacdac1d1f08b809d9d859fabadf51cff3", func := "jetty/jettylaw14.WalkMakes", spec := "walkMakes", inPlace := ["slices.overlaps[string]", "maps.clone"], unfollowed := true, recurses := true, plainKeys := false, apart := false }
def WalkMakesSaid : Prop := walkMakesRow.holds Tryz.pinned (OpenSpec.ofChange walkMakesSpec)

/-- ITS FALSE NEIGHBOUR: 'it returns false'. Refute it at one input. -/
def walkMakesWrong : ChangeSpec := { name := "walkMakes", fn := fun _ => fun
  | [d1, d2] => { results := [.lit (.bool false)], args := [d1, d2] }
  | _ => none }
def WalkMakesWrongFalsely : Prop := walkMakesRow.holds Tryz.pinned (OpenSpec.ofChange walkMakesWrong)

/- THE SECOND FORM. 'bulk': how many values and letters a reading holds, each counted each time it is reached (what is shared counts as often as it is met; a slice's spare places count too). A statement '..UptoSaid' is the law's where the arguments, and the package variables that the reading takes, are together of bulk at most 1048576: NARROWER than '..Said'. Prove '..Said' where nothing that the law and all that it calls make is longer than what came in: it says more and counts as full. Else prove '..UptoSaid'. A law counts once. -/
mutual
def uptoBulk {H : Type} : DataW H → Nat
  | .lit (.string bytes) => bytes.length + 1
  | .lit _ => 1
  | .nil => 1
  | .ptr d => uptoBulk d + 1
  | .slice elems spare => uptoBulkAll elems + uptoBulkAll spare + 1
  | .agg parts => uptoBulkAll parts + 1
  | .iface _ d => uptoBulk d + 1
  | .map entries => uptoBulkEntries entries + 1
  | .held _ => 1
def uptoBulkAll {H : Type} : List (DataW H) → Nat
  | [] => 0
  | d :: r => uptoBulk d + uptoBulkAll r
def uptoBulkEntries {H : Type} : List (Lit × DataW H) → Nat
  | [] => 0
  | x :: r => uptoBulkEntry x + uptoBulkEntries r
def uptoBulkEntry {H : Type} : Lit × DataW H → Nat
  | (.string bytes, d) => bytes.length + uptoBulk d + 1
  | (_, d) => uptoBulk d + 1
 end
def uptoSmall : (H : Type) → List (DataW H) → Bool := fun _ ds => decide (uptoBulkAll ds ≤ 1048576)
def OpenSpec.upto (s : _root_.Go.ChangeSpec) : _root_.Go.OpenSpec := { _root_.Go.OpenSpec.ofChange s with cond := some uptoSmall }

/-- 'jettylaw13.TreeMap', WHERE WHAT IT READS IS OF BULK AT MOST 1048576: true; the input reads as it did. -/
def treeMapUptoRow : OpenClaim := { program := "ytaaflpnhdkoaeaagreat", sum := "cb01a484ae421451deed21e541e50cbacdac1d1f08b809d9d859fabadf51cff3", func := "jetty/jettylaw13.TreeMap", spec := "treeMap", inPlace := ["slices.overlaps[string]"], unfollowed := true, recurses := true, plainKeys := false, apart := false, narrowed := true }
def TreeMapUptoSaid : Prop := treeMapUptoRow.holds Tryz.pinned (OpenSpec.upto treeMapSpec)

/-- 'jettylaw13.TreeOld', WHERE WHAT IT READS IS OF BULK AT MOST 1048576: true; the input reads as it did. -/
def treeOldUptoRow : OpenClaim := { program := "ytaaflpnhdkoaeaagreat", sum := "cb01a484ae421451deed21e541e50cbacdac1d1f08b809d9d859fabadf51cff3", func := "jetty/jettylaw13.TreeOld", spec := "treeOld", inPlace := ["slices.overlaps[string]"], unfollowed := true, recurses := true, plainKeys := false, apart := false, narrowed := true }
def TreeOldUptoSaid : Prop := treeOldUptoRow.holds Tryz.pinned (OpenSpec.upto treeOldSpec)

/-- 'jettylaw13.TreeByte', WHERE WHAT IT READS IS OF BULK AT MOST 1048576: true; the input reads as it did. -/
def treeByteUptoRow : OpenClaim := { program := "ytaaflpnhdkoaeaagreat", sum := "cb01a484ae421451deed21e541e50cbacdac1d1f08b809d9d859fabadf51cff3", func := "jetty/jettylaw13.TreeByte", spec := "treeByte", inPlace := ["slices.overlaps[string]", "maps.clone"], unfollowed := true, recurses := true, plainKeys := false, apart := false, narrowed := true }
def TreeByteUptoSaid : Prop := treeByteUptoRow.holds Tryz.pinned (OpenSpec.upto treeByteSpec)

/-- 'jettylaw13.TreeShape', WHERE WHAT IT READS IS OF BULK AT MOST 1048576: true; the input reads as it did. -/
def treeShapeUptoRow : OpenClaim := { program := "ytaaflpnhdkoaeaagreat", sum := "cb01a484ae421451deed21e541e50cbacdac1d1f08b809d9d859fabadf51cff3", func := "jetty/jettylaw13.TreeShape", spec := "treeShape", inPlace := ["slices.overlaps[string]"], unfollowed := true, recurses := true, plainKeys := false, apart := false, narrowed := true }
def TreeShapeUptoSaid : Prop := treeShapeUptoRow.holds Tryz.pinned (OpenSpec.upto treeShapeSpec)

/-- 'jettylaw13.TreePlays', WHERE WHAT IT READS IS OF BULK AT MOST 1048576: true; the input reads as it did. -/
def treePlaysUptoRow : OpenClaim := { program := "ytaaflpnhdkoaeaagreat", sum := "cb01a484ae421451deed21e541e50cbacdac1d1f08b809d9d859fabadf51cff3", func := "jetty/jettylaw13.TreePlays", spec := "treePlays", inPlace := ["slices.overlaps[string]", "maps.clone"], unfollowed := true, recurses := true, plainKeys := false, apart := false, narrowed := true }
def TreePlaysUptoSaid : Prop := treePlaysUptoRow.holds Tryz.pinned (OpenSpec.upto treePlaysSpec)

/-- 'jettylaw14.WalkRanges', WHERE WHAT IT READS IS OF BULK AT MOST 1048576: true; the input reads as it did. -/
def walkRangesUptoRow : OpenClaim := { program := "ytaaflpnhdkoaeaagreat", sum := "cb01a484ae421451deed21e541e50cbacdac1d1f08b809d9d859fabadf51cff3", func := "jetty/jettylaw14.WalkRanges", spec := "walkRanges", inPlace := ["slices.overlaps[string]"], unfollowed := true, recurses := true, plainKeys := false, apart := false, narrowed := true }
def WalkRangesUptoSaid : Prop := walkRangesUptoRow.holds Tryz.pinned (OpenSpec.upto walkRangesSpec)

/-- 'jettylaw14.WalkParts', WHERE WHAT IT READS IS OF BULK AT MOST 1048576: true; the input reads as it did. -/
def walkPartsUptoRow : OpenClaim := { program := "ytaaflpnhdkoaeaagreat", sum := "cb01a484ae421451deed21e541e50cbacdac1d1f08b809d9d859fabadf51cff3", func := "jetty/jettylaw14.WalkParts", spec := "walkParts", inPlace := ["slices.overlaps[string]"], unfollowed := true, recurses := true, plainKeys := false, apart := false, narrowed := true }
def WalkPartsUptoSaid : Prop := walkPartsUptoRow.holds Tryz.pinned (OpenSpec.upto walkPartsSpec)

/-- 'jettylaw14.WalkBlocks', WHERE WHAT IT READS IS OF BULK AT MOST 1048576: true; the input reads as it did. -/
def walkBlocksUptoRow : OpenClaim := { program := "ytaaflpnhdkoaeaagreat", sum := "cb01a484ae421451deed21e541e50cbacdac1d1f08b809d9d859fabadf51cff3", func := "jetty/jettylaw14.WalkBlocks", spec := "walkBlocks", inPlace := ["slices.overlaps[string]"], unfollowed := true, recurses := true, plainKeys := false, apart := false, narrowed := true }
def WalkBlocksUptoSaid : Prop := walkBlocksUptoRow.holds Tryz.pinned (OpenSpec.upto walkBlocksSpec)

/-- 'jettylaw14.WalkDiffs', WHERE WHAT IT READS IS OF BULK AT MOST 1048576: true; the input reads as it did. -/
def walkDiffsUptoRow : OpenClaim := { program := "ytaaflpnhdkoaeaagreat", sum := "cb01a484ae421451deed21e541e50cbacdac1d1f08b809d9d859fabadf51cff3", func := "jetty/jettylaw14.WalkDiffs", spec := "walkDiffs", inPlace := ["slices.overlaps[string]", "maps.clone"], unfollowed := true, recurses := true, plainKeys := false, apart := false, narrowed := true }
def WalkDiffsUptoSaid : Prop := walkDiffsUptoRow.holds Tryz.pinned (OpenSpec.upto walkDiffsSpec)

/-- 'jettylaw14.WalkMakes', WHERE WHAT IT READS IS OF BULK AT MOST 1048576: true; the input reads as it did. -/
def walkMakesUptoRow : OpenClaim := { program := "ytaaflpnhdkoaeaagreat", sum := "cb01a484ae421451deed21e541e50cbacdac1d1f08b809d9d859fabadf51cff3", func := "jetty/jettylaw14.WalkMakes", spec := "walkMakes", inPlace := ["slices.overlaps[string]", "maps.clone"], unfollowed := true, recurses := true, plainKeys := false, apart := false, narrowed := true }
def WalkMakesUptoSaid : Prop := walkMakesUptoRow.holds Tryz.pinned (OpenSpec.upto walkMakesSpec)

end Rows
end Go.Proofs.YtaaflpnhdkoaeaaGreat
