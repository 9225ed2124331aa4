/-
  No cell of these rows narrows 'for every input' (looked for: loops, veiled, ifaces, maps, wideKeys, modest, calm, conditions, laid).
  DERIVED. THE GIVEN ROWS OF THIS SEAT. 10 by the template 'for every input the law returns true; each argument reads behind the call as it read before'; 0 by the template 'total and deterministic' (their statements: YtngkjhifpekkcaaGreatTotals.lean).
  GIVEN WITH THE SEED: the statements are not yours to turn. If you find one false, say at which input.
  Laid BY PROGRAM, IN A SANDBOX (cutbox-rows.mjs): the forced cells as the released guide's own fill.sh prints them over the translation 749407b08af249bd… (all of the seat's roots in one cut). By AI agents, Wed Nov 11 2026. No macro, syntax, notation, axiom, sorry.
-/
import Derived.Test.YtngkjhifpekkcaaGreatChecked
import GoSem.Claim
import GoSem.ClaimJoined
import GoSem.ClaimMapViews
import Derived.JoinedTies
import Derived.KernelRfl
namespace Go.Proofs.YtngkjhifpekkcaaGreat
/- THE CELL 'sum', in the pinned program and in every row, IS THE sha256 OF THE DUMP (.gsa) THAT YtngkjhifpekkcaaGreatProg.lean LOADS. Nothing in Lean hashes anything: it is a label: what it is worth is what the hold of that sum in a sandbox is worth. -/
noncomputable def Tryz.pinned : Pinned := { name := "ytngkjhifpekkcaagreat", sum := "749407b08af249bd236f84ba50d2d80eb5cea0410424b8279ef0c545a01e00f0", checked := Tryz.checked }
namespace Rows
def none {H : Type} : Left H := { results := [], args := [] }

/-- 'jettylaw27.DrcLast': WHATEVER THE INPUT: true; the input reads as it did. -/
def drcLastSpec : ChangeSpec := { name := "drcLast", fn := fun _ => fun
  | [d1, d2, d3] => { results := [.lit (.bool true)], args := [d1, d2, d3] }
  | _ => none }
def drcLastRow : OpenClaim := { program := "ytngkjhifpekkcaagreat", sum := "749407b08af249bd236f84ba50d2d80eb5cea0410424b8279ef0c545a01e00f0", func := "jetty/jettylaw27.DrcLast", spec := "drcLast", inPlace := ["slices.overlaps[string]"], unfollowed := true, recurses := true, plainKeys := false, apart := false }
def DrcLastSaid : Prop := drcLastRow.holds Tryz.pinned (OpenSpec.ofChange drcLastSpec)

/-- ITS FALSE NEIGHBOUR: 'it returns false'. Refute it at one input. -/
def drcLastWrong : ChangeSpec := { name := "drcLast", fn := fun _ => fun
  | [d1, d2, d3] => { results := [.lit (.bool false)], args := [d1, d2, d3] }
  | _ => none }
def DrcLastWrongFalsely : Prop := drcLastRow.holds Tryz.pinned (OpenSpec.ofChange drcLastWrong)

/-- 'jettylaw13.TreeOrder': WHATEVER THE INPUT: true; the input reads as it did. -/
def treeOrderSpec : ChangeSpec := { name := "treeOrder", fn := fun _ => fun
  | [d] => { results := [.lit (.bool true)], args := [d] }
  | _ => none }
def treeOrderRow : OpenClaim := { program := "ytngkjhifpekkcaagreat", sum := "749407b08af249bd236f84ba50d2d80eb5cea0410424b8279ef0c545a01e00f0", func := "jetty/jettylaw13.TreeOrder", spec := "treeOrder", inPlace := ["slices.overlaps[string]"], unfollowed := true, recurses := true, plainKeys := false, apart := false }
def TreeOrderSaid : Prop := treeOrderRow.holds Tryz.pinned (OpenSpec.ofChange treeOrderSpec)

/-- ITS FALSE NEIGHBOUR: 'it returns false'. Refute it at one input. -/
def treeOrderWrong : ChangeSpec := { name := "treeOrder", fn := fun _ => fun
  | [d] => { results := [.lit (.bool false)], args := [d] }
  | _ => none }
def TreeOrderWrongFalsely : Prop := treeOrderRow.holds Tryz.pinned (OpenSpec.ofChange treeOrderWrong)

/-- 'jettylaw27.DrcOnce': WHATEVER THE INPUT: true; the input reads as it did. -/
def drcOnceSpec : ChangeSpec := { name := "drcOnce", fn := fun _ => fun
  | [d] => { results := [.lit (.bool true)], args := [d] }
  | _ => none }
def drcOnceRow : OpenClaim := { program := "ytngkjhifpekkcaagreat", sum := "749407b08af249bd236f84ba50d2d80eb5cea0410424b8279ef0c545a01e00f0", func := "jetty/jettylaw27.DrcOnce", spec := "drcOnce", inPlace := ["slices.overlaps[string]"], unfollowed := true, recurses := true, plainKeys := false, apart := false }
def DrcOnceSaid : Prop := drcOnceRow.holds Tryz.pinned (OpenSpec.ofChange drcOnceSpec)

/-- ITS FALSE NEIGHBOUR: 'it returns false'. Refute it at one input. -/
def drcOnceWrong : ChangeSpec := { name := "drcOnce", fn := fun _ => fun
  | [d] => { results := [.lit (.bool false)], args := [d] }
  | _ => none }
def DrcOnceWrongFalsely : Prop := drcOnceRow.holds Tryz.pinned (OpenSpec.ofChange drcOnceWrong)

/-- 'jettylaw13.TreeMap': WHATEVER THE INPUT: true; the input reads as it did. -/
def treeMapSpec : ChangeSpec := { name := "treeMap", fn := fun _ => fun
  | [d1, d2] => { results := [.lit (.bool true)], args := [d1, d2] }
  | _ => none }
def treeMapRow : OpenClaim := { program := "ytngkjhifpekkcaagreat", sum := "749407b08af249bd236f84ba50d2d80eb5cea0410424b8279ef0c545a01e00f0", func := "jetty/jettylaw13.TreeMap", spec := "treeMap", inPlace := ["slices.overlaps[string]"], unfollowed := true, recurses := true, plainKeys := false, apart := false }
def TreeMapSaid : Prop := treeMapRow.holds Tryz.pinned (OpenSpec.ofChange treeMapSpec)

/-- ITS FALSE NEIGHBOUR: 'it returns false'. Refute it at one input. -/
def treeMapWrong : ChangeSpec := { name := "treeMap", fn := fun _ => fun
  | [d1, d2] => { results := [.lit (.bool false)], args := [d1, d2] }
  | _ => none }
def TreeMapWrongFalsely : Prop := treeMapRow.holds Tryz.pinned (OpenSpec.ofChange treeMapWrong)

/-- 'jettylaw13.TreeOld': WHATEVER THE INPUT: true; the input reads as it did. -/
def treeOldSpec : ChangeSpec := { name := "treeOld", fn := fun _ => fun
  | [d] => { results := [.lit (.bool true)], args := [d] }
  | _ => none }
def treeOldRow : OpenClaim := { program := "ytngkjhifpekkcaagreat", sum := "749407b08af249bd236f84ba50d2d80eb5cea0410424b8279ef0c545a01e00f0", func := "jetty/jettylaw13.TreeOld", spec := "treeOld", inPlace := ["slices.overlaps[string]"], unfollowed := true, recurses := true, plainKeys := false, apart := false }
def TreeOldSaid : Prop := treeOldRow.holds Tryz.pinned (OpenSpec.ofChange treeOldSpec)

/-- ITS FALSE NEIGHBOUR: 'it returns false'. Refute it at one input. -/
def treeOldWrong : ChangeSpec := { name := "treeOld", fn := fun _ => fun
  | [d] => { results := [.lit (.bool false)], args := [d] }
  | _ => none }
def TreeOldWrongFalsely : Prop := treeOldRow.holds Tryz.pinned (OpenSpec.ofChange treeOldWrong)

/-- 'jettylaw13.TreeCopies': WHATEVER THE INPUT: true; the input reads as it did. -/
def treeCopiesSpec : ChangeSpec := { name := "treeCopies", fn := fun _ => fun
  | [d1, d2] => { results := [.lit (.bool true)], args := [d1, d2] }
  | _ => none }
def treeCopiesRow : OpenClaim := { program := "ytngkjhifpekkcaagreat", sum := "749407b08af249bd236f84ba50d2d80eb5cea0410424b8279ef0c545a01e00f0", func := "jetty/jettylaw13.TreeCopies", spec := "treeCopies", inPlace := ["slices.overlaps[string]", "maps.clone"], unfollowed := true, recurses := true, plainKeys := false, apart := false }
def TreeCopiesSaid : Prop := treeCopiesRow.holds Tryz.pinned (OpenSpec.ofChange treeCopiesSpec)

/-- ITS FALSE NEIGHBOUR: 'it returns false'. Refute it at one input. -/
def treeCopiesWrong : ChangeSpec := { name := "treeCopies", fn := fun _ => fun
  | [d1, d2] => { results := [.lit (.bool false)], args := [d1, d2] }
  | _ => none }
def TreeCopiesWrongFalsely : Prop := treeCopiesRow.holds Tryz.pinned (OpenSpec.ofChange treeCopiesWrong)

/-- 'jettylaw13.TreeByte': WHATEVER THE INPUT: true; the input reads as it did. -/
def treeByteSpec : ChangeSpec := { name := "treeByte", fn := fun _ => fun
  | [d1, d2, d3, d4] => { results := [.lit (.bool true)], args := [d1, d2, d3, d4] }
  | _ => none }
def treeByteRow : OpenClaim := { program := "ytngkjhifpekkcaagreat", sum := "749407b08af249bd236f84ba50d2d80eb5cea0410424b8279ef0c545a01e00f0", func := "jetty/jettylaw13.TreeByte", spec := "treeByte", inPlace := ["slices.overlaps[string]", "maps.clone"], unfollowed := true, recurses := true, plainKeys := false, apart := false }
def TreeByteSaid : Prop := treeByteRow.holds Tryz.pinned (OpenSpec.ofChange treeByteSpec)

/-- ITS FALSE NEIGHBOUR: 'it returns false'. Refute it at one input. -/
def treeByteWrong : ChangeSpec := { name := "treeByte", fn := fun _ => fun
  | [d1, d2, d3, d4] => { results := [.lit (.bool false)], args := [d1, d2, d3, d4] }
  | _ => none }
def TreeByteWrongFalsely : Prop := treeByteRow.holds Tryz.pinned (OpenSpec.ofChange treeByteWrong)

/-- 'jettylaw13.TreeShape': WHATEVER THE INPUT: true; the input reads as it did. -/
def treeShapeSpec : ChangeSpec := { name := "treeShape", fn := fun _ => fun
  | [d] => { results := [.lit (.bool true)], args := [d] }
  | _ => none }
def treeShapeRow : OpenClaim := { program := "ytngkjhifpekkcaagreat", sum := "749407b08af249bd236f84ba50d2d80eb5cea0410424b8279ef0c545a01e00f0", func := "jetty/jettylaw13.TreeShape", spec := "treeShape", inPlace := ["slices.overlaps[string]"], unfollowed := true, recurses := true, plainKeys := false, apart := false }
def TreeShapeSaid : Prop := treeShapeRow.holds Tryz.pinned (OpenSpec.ofChange treeShapeSpec)

/-- ITS FALSE NEIGHBOUR: 'it returns false'. Refute it at one input. -/
def treeShapeWrong : ChangeSpec := { name := "treeShape", fn := fun _ => fun
  | [d] => { results := [.lit (.bool false)], args := [d] }
  | _ => none }
def TreeShapeWrongFalsely : Prop := treeShapeRow.holds Tryz.pinned (OpenSpec.ofChange treeShapeWrong)

/-- 'jettylaw23.DirBack': WHATEVER THE INPUT: true; the input reads as it did. -/
def dirBackSpec : ChangeSpec := { name := "dirBack", fn := fun _ => fun
  | [d1, d2] => { results := [.lit (.bool true)], args := [d1, d2] }
  | _ => none }
def dirBackRow : OpenClaim := { program := "ytngkjhifpekkcaagreat", sum := "749407b08af249bd236f84ba50d2d80eb5cea0410424b8279ef0c545a01e00f0", func := "jetty/jettylaw23.DirBack", spec := "dirBack", inPlace := ["internal/bytealg.IndexByteString", "internal/bytealg.IndexString", "slices.overlaps[string]"], unfollowed := true, recurses := true, named := ["internal/bytealg.MaxLen"], plainKeys := false, apart := false }
def DirBackSaid : Prop := dirBackRow.holds Tryz.pinned (OpenSpec.ofChange dirBackSpec)

/-- ITS FALSE NEIGHBOUR: 'it returns false'. Refute it at one input. -/
def dirBackWrong : ChangeSpec := { name := "dirBack", fn := fun _ => fun
  | [d1, d2] => { results := [.lit (.bool false)], args := [d1, d2] }
  | _ => none }
def DirBackWrongFalsely : Prop := dirBackRow.holds Tryz.pinned (OpenSpec.ofChange dirBackWrong)

/-- 'jettylaw23.DirMap': WHATEVER THE INPUT: true; the input reads as it did. -/
def dirMapSpec : ChangeSpec := { name := "dirMap", fn := fun _ => fun
  | [d1, d2] => { results := [.lit (.bool true)], args := [d1, d2] }
  | _ => none }
def dirMapRow : OpenClaim := { program := "ytngkjhifpekkcaagreat", sum := "749407b08af249bd236f84ba50d2d80eb5cea0410424b8279ef0c545a01e00f0", func := "jetty/jettylaw23.DirMap", spec := "dirMap", inPlace := ["internal/bytealg.IndexByteString", "internal/bytealg.IndexString", "slices.overlaps[string]"], unfollowed := true, recurses := true, named := ["internal/bytealg.MaxLen"], plainKeys := false, apart := false }
def DirMapSaid : Prop := dirMapRow.holds Tryz.pinned (OpenSpec.ofChange dirMapSpec)

/-- ITS FALSE NEIGHBOUR: 'it returns false'. Refute it at one input. -/
def dirMapWrong : ChangeSpec := { name := "dirMap", fn := fun _ => fun
  | [d1, d2] => { results := [.lit (.bool false)], args := [d1, d2] }
  | _ => none }
def DirMapWrongFalsely : Prop := dirMapRow.holds Tryz.pinned (OpenSpec.ofChange dirMapWrong)

/- THE SECOND FORM. 'bulk': how many values and letters a reading holds, each counted each time it is reached (what is shared counts as often as it is met; a slice's spare places count too). A statement '..UptoSaid' is the law's where the arguments, and the package variables that the reading takes, are together of bulk at most 1048576: NARROWER than '..Said'. Prove '..Said' where nothing that the law and all that it calls make is longer than what came in: it says more and counts as full. Else prove '..UptoSaid'. A law counts once. -/
mutual
def uptoBulk {H : Type} : DataW H → Nat
  | .lit (.string bytes) => bytes.length + 1
  | .lit _ => 1
  | .nil => 1
  | .ptr d => uptoBulk d + 1
  | .slice elems spare => uptoBulkAll elems + uptoBulkAll spare + 1
  | .agg parts => uptoBulkAll parts + 1
  | .iface _ d => uptoBulk d + 1
  | .map entries => uptoBulkEntries entries + 1
  | .held _ => 1
def uptoBulkAll {H : Type} : List (DataW H) → Nat
  | [] => 0
  | d :: r => uptoBulk d + uptoBulkAll r
def uptoBulkEntries {H : Type} : List (Lit × DataW H) → Nat
  | [] => 0
  | x :: r => uptoBulkEntry x + uptoBulkEntries r
def uptoBulkEntry {H : Type} : Lit × DataW H → Nat
  | (.string bytes, d) => bytes.length + uptoBulk d + 1
  | (_, d) => uptoBulk d + 1
 end
def uptoSmall : (H : Type) → List (DataW H) → Bool := fun _ ds => decide (uptoBulkAll ds ≤ 1048576)
def OpenSpec.upto (s : _root_.Go.ChangeSpec) : _root_.Go.OpenSpec := { _root_.Go.OpenSpec.ofChange s with cond := some uptoSmall }

/-- 'jettylaw27.DrcLast', WHERE WHAT IT READS IS OF BULK AT MOST 1048576: true; the input reads as it did. -/
def drcLastUptoRow : OpenClaim := { program := "ytngkjhifpekkcaagreat", sum := "749407b08af249bd236f84ba50d2d80eb5cea0410424b8279ef0c545a01e00f0", func := "jetty/jettylaw27.DrcLast", spec := "drcLast", inPlace := ["slices.overlaps[string]"], unfollowed := true, recurses := true, plainKeys := false, apart := false, narrowed := true }
def DrcLastUptoSaid : Prop := drcLastUptoRow.holds Tryz.pinned (OpenSpec.upto drcLastSpec)

/-- 'jettylaw13.TreeOrder', WHERE WHAT IT READS IS OF BULK AT MOST 1048576: true; the input reads as it did. -/
def treeOrderUptoRow : OpenClaim := { program := "ytngkjhifpekkcaagreat", sum := "749407b08af249bd236f84ba50d2d80eb5cea0410424b8279ef0c545a01e00f0", func := "jetty/jettylaw13.TreeOrder", spec := "treeOrder", inPlace := ["slices.overlaps[string]"], unfollowed := true, recurses := true, plainKeys := false, apart := false, narrowed := true }
def TreeOrderUptoSaid : Prop := treeOrderUptoRow.holds Tryz.pinned (OpenSpec.upto treeOrderSpec)

/-- 'jettylaw27.DrcOnce', WHERE WHAT IT READS IS OF BULK AT MOST 1048576: true; the input reads as it did. -/
def drcOnceUptoRow : OpenClaim := { program := "ytngkjhifpekkcaagreat", sum := "749407b08af249bd236f84ba50d2d80eb5cea0410424b8279ef0c545a01e00f0", func := "jetty/jettylaw27.DrcOnce", spec := "drcOnce", inPlace := ["slices.overlaps[string]"], unfollowed := true, recurses := true, plainKeys := false, apart := false, narrowed := true }
def DrcOnceUptoSaid : Prop := drcOnceUptoRow.holds Tryz.pinned (OpenSpec.upto drcOnceSpec)

/-- 'jettylaw13.TreeMap', WHERE WHAT IT READS IS OF BULK AT MOST 1048576: true; the input reads as it did. -/
def treeMapUptoRow : OpenClaim := { program := "ytngkjhifpekkcaagreat", sum := "749407b08af249bd236f84ba50d2d80eb5cea0410424b8279ef0c545a01e00f0", func := "jetty/jettylaw13.TreeMap", spec := "treeMap", inPlace := ["slices.overlaps[string]"], unfollowed := true, recurses := true, plainKeys := false, apart := false, narrowed := true }
def TreeMapUptoSaid : Prop := treeMapUptoRow.holds Tryz.pinned (OpenSpec.upto treeMapSpec)

/-- 'jettylaw13.TreeOld', WHERE WHAT IT READS IS OF BULK AT MOST 1048576: true; the input reads as it did. -/
def treeOldUptoRow : OpenClaim := { program := "ytngkjhifpekkcaagreat", sum := "749407b08af249bd236f84ba50d2d80eb5cea0410424b8279ef0c545a01e00f0", func := "jetty/jettylaw13.TreeOld", spec := "treeOld", inPlace := ["slices.overlaps[string]"], unfollowed := true, recurses := true, plainKeys := false, apart := false, narrowed := true }
def TreeOldUptoSaid : Prop := treeOldUptoRow.holds Tryz.pinned (OpenSpec.upto treeOldSpec)

/-- 'jettylaw13.TreeCopies', WHERE WHAT IT READS IS OF BULK AT MOST 1048576: true; the input reads as it did. -/
def treeCopiesUptoRow : OpenClaim := { program := "ytngkjhifpekkcaagreat", sum := "749407b08af249bd236f84ba50d2d80eb5cea0410424b8279ef0c545a01e00f0", func := "jetty/jettylaw13.TreeCopies", spec := "treeCopies", inPlace := ["slices.overlaps[string]", "maps.clone"], unfollowed := true, recurses := true, plainKeys := false, apart := false, narrowed := true }
def TreeCopiesUptoSaid : Prop := treeCopiesUptoRow.holds Tryz.pinned (OpenSpec.upto treeCopiesSpec)

/-- 'jettylaw13.TreeByte', WHERE WHAT IT READS IS OF BULK AT MOST 1048576: true; the input reads as it did. -/
def treeByteUptoRow : OpenClaim := { program := "ytngkjhifpekkcaagreat", sum := "749407b08af249bd236f84ba50d2d80eb5cea0410424b8279ef0c545a01e00f0", func := "jetty/jettylaw13.TreeByte", spec := "treeByte", inPlace := ["slices.overlaps[string]", "maps.clone"], unfollowed := true, recurses := true, plainKeys := false, apart := false, narrowed := true }
def TreeByteUptoSaid : Prop := treeByteUptoRow.holds Tryz.pinned (OpenSpec.upto treeByteSpec)

/-- 'jettylaw13.TreeShape', WHERE WHAT IT READS IS OF BULK AT MOST 1048576: true; the input reads as it did. -/
def treeShapeUptoRow : OpenClaim := { program := "ytngkjhifpekkcaagreat", sum := "749407b08af249bd236f84ba50d2d80eb5cea0410424b8279ef0c545a01e00f0", func := "jetty/jettylaw13.TreeShape", spec := "treeShape", inPlace := ["slices.overlaps[string]"], unfollowed := true, recurses := true, plainKeys := false, apart := false, narrowed := true }
def TreeShapeUptoSaid : Prop := treeShapeUptoRow.holds Tryz.pinned (OpenSpec.upto treeShapeSpec)

/-- 'jettylaw23.DirBack', WHERE WHAT IT READS IS OF BULK AT MOST 1048576: true; the input reads as it did. -/
def dirBackUptoRow : OpenClaim := { program := "ytngkjhifpekkcaagreat", sum := "749407b08af249bd236f84ba50d2d80eb5cea0410424b8279ef0c545a01e00f0", func := "jetty/jettylaw23.DirBack", spec := "dirBack", inPlace := ["internal/bytealg.IndexByteString", "internal/bytealg.IndexString", "slices.overlaps[string]"], unfollowed := true, recurses := true, named := ["internal/bytealg.MaxLen"], plainKeys := false, apart := false, narrowed := true }
def DirBackUptoSaid : Prop := dirBackUptoRow.holds Tryz.pinned (OpenSpec.upto dirBackSpec)

/-- 'jettylaw23.DirMap', WHERE WHAT IT READS IS OF BULK AT MOST 1048576: true; the input reads as it did. -/
def dirMapUptoRow : OpenClaim := { program := "ytngkjhifpekkcaagreat", sum := "749407b08af249bd236f84ba50d2d80eb5cea0410424b8279ef0c545a01e00f0", func := "jetty/jettylaw23.DirMap", spec := "dirMap", inPlace := ["internal/bytealg.IndexByteString", "internal/bytealg.IndexString", "slices.overlaps[string]"], unfollowed := true, recurses := true, named := ["internal/bytealg.MaxLen"], plainKeys := false, apart := false, narrowed := true }
def DirMapUptoSaid : Prop := dirMapUptoRow.holds Tryz.pinned (OpenSpec.upto dirMapSpec)

end Rows
end Go.Proofs.YtngkjhifpekkcaaGreat
