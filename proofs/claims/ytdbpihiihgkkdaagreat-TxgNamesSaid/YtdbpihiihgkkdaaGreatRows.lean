/-
  No cell of these rows narrows 'for every input' (looked for: loops, veiled, ifaces, maps, wideKeys, modest, calm, conditions, laid).
  DERIVED. THE GIVEN ROWS OF THIS SEAT. 5 by the template 'for every input the law returns true; each argument reads behind the call as it read before'; 0 by the template 'total and deterministic' (their statements: YtdbpihiihgkkdaaGreatTotals.lean).
  GIVEN WITH THE SEED: the statements are not yours to turn. If you find one false, say at which input.
  Laid BY PROGRAM, IN A SANDBOX (cutbox-rows.mjs): the forced cells as the released guide's own fill.sh prints them over the translation 92d85471531f6bbd… (all of the seat's roots in one cut). By AI agents, Wed Nov 11 2026. No macro, syntax, notation, axiom, sorry.
-/
import Derived.Test.YtdbpihiihgkkdaaGreatChecked
import GoSem.Claim
import GoSem.ClaimJoined
import GoSem.ClaimMapViews
import Derived.JoinedTies
import Derived.KernelRfl
namespace Go.Proofs.YtdbpihiihgkkdaaGreat
/- THE CELL 'sum', in the pinned program and in every row, IS THE sha256 OF THE DUMP (.gsa) THAT YtdbpihiihgkkdaaGreatProg.lean LOADS. Nothing in Lean hashes anything: it is a label: what it is worth is what the hold of that sum in a sandbox is worth. -/
noncomputable def Tryz.pinned : Pinned := { name := "ytdbpihiihgkkdaagreat", sum := "92d85471531f6bbd3efd365e7db435d7b52f1ce3ed5f05bbcfc638fdc90e9a4b", checked := Tryz.checked }
namespace Rows
def none {H : Type} : Left H := { results := [], args := [] }

/-- 'jettylaw27.DrcNames': WHATEVER THE INPUT: true; the input reads as it did. -/
def drcNamesSpec : ChangeSpec := { name := "drcNames", fn := fun _ => fun
  | [] => { results := [.lit (.bool true)], args := [] }
  | _ => none }
def drcNamesRow : OpenClaim := { program := "ytdbpihiihgkkdaagreat", sum := "92d85471531f6bbd3efd365e7db435d7b52f1ce3ed5f05bbcfc638fdc90e9a4b", func := "jetty/jettylaw27.DrcNames", spec := "drcNames", inPlace := ["slices.overlaps[string]"], unfollowed := true, recurses := true, plainKeys := false, apart := false }
def DrcNamesSaid : Prop := drcNamesRow.holds Tryz.pinned (OpenSpec.ofChange drcNamesSpec)

/-- ITS FALSE NEIGHBOUR: 'it returns false'. Refute it at one input. -/
def drcNamesWrong : ChangeSpec := { name := "drcNames", fn := fun _ => fun
  | [] => { results := [.lit (.bool false)], args := [] }
  | _ => none }
def DrcNamesWrongFalsely : Prop := drcNamesRow.holds Tryz.pinned (OpenSpec.ofChange drcNamesWrong)

/-- 'jettylaw13.TreeNames': WHATEVER THE INPUT: true; the input reads as it did. -/
def treeNamesSpec : ChangeSpec := { name := "treeNames", fn := fun _ => fun
  | [] => { results := [.lit (.bool true)], args := [] }
  | _ => none }
def treeNamesRow : OpenClaim := { program := "ytdbpihiihgkkdaagreat", sum := "92d85471531f6bbd3efd365e7db435d7b52f1ce3ed5f05bbcfc638fdc90e9a4b", func := "jetty/jettylaw13.TreeNames", spec := "treeNames", inPlace := ["slices.overlaps[string]", "maps.clone"], unfollowed := true, recurses := true, plainKeys := false, apart := false }
def TreeNamesSaid : Prop := treeNamesRow.holds Tryz.pinned (OpenSpec.ofChange treeNamesSpec)

/-- ITS FALSE NEIGHBOUR: 'it returns false'. Refute it at one input. -/
def treeNamesWrong : ChangeSpec := { name := "treeNames", fn := fun _ => fun
  | [] => { results := [.lit (.bool false)], args := [] }
  | _ => none }
def TreeNamesWrongFalsely : Prop := treeNamesRow.holds Tryz.pinned (OpenSpec.ofChange treeNamesWrong)

/-- 'jettylaw14.WalkNames': WHATEVER THE INPUT: true; the input reads as it did. -/
def walkNamesSpec : ChangeSpec := { name := "walkNames", fn := fun _ => fun
  | [] => { results := [.lit (.bool true)], args := [] }
  | _ => none }
def walkNamesRow : OpenClaim := { program := "ytdbpihiihgkkdaagreat", sum := "92d85471531f6bbd3efd365e7db435d7b52f1ce3ed5f05bbcfc638fdc90e9a4b", func := "jetty/jettylaw14.WalkNames", spec := "walkNames", inPlace := ["slices.overlaps[string]"], unfollowed := true, recurses := true, plainKeys := false, apart := false }
def WalkNamesSaid : Prop := walkNamesRow.holds Tryz.pinned (OpenSpec.ofChange walkNamesSpec)

/-- ITS FALSE NEIGHBOUR: 'it returns false'. Refute it at one input. -/
def walkNamesWrong : ChangeSpec := { name := "walkNames", fn := fun _ => fun
  | [] => { results := [.lit (.bool false)], args := [] }
  | _ => none }
def WalkNamesWrongFalsely : Prop := walkNamesRow.holds Tryz.pinned (OpenSpec.ofChange walkNamesWrong)

/-- 'jettylaw15.TxgNames': WHATEVER THE INPUT: true; the input reads as it did. -/
def txgNamesSpec : ChangeSpec := { name := "txgNames", fn := fun _ => fun
  | [] => { results := [.lit (.bool true)], args := [] }
  | _ => none }
def txgNamesRow : OpenClaim := { program := "ytdbpihiihgkkdaagreat", sum := "92d85471531f6bbd3efd365e7db435d7b52f1ce3ed5f05bbcfc638fdc90e9a4b", func := "jetty/jettylaw15.TxgNames", spec := "txgNames", inPlace := ["slices.overlaps[string]", "maps.clone"], unfollowed := true, recurses := true, plainKeys := false, apart := false }
def TxgNamesSaid : Prop := txgNamesRow.holds Tryz.pinned (OpenSpec.ofChange txgNamesSpec)

/-- ITS FALSE NEIGHBOUR: 'it returns false'. Refute it at one input. -/
def txgNamesWrong : ChangeSpec := { name := "txgNames", fn := fun _ => fun
  | [] => { results := [.lit (.bool false)], args := [] }
  | _ => none }
def TxgNamesWrongFalsely : Prop := txgNamesRow.holds Tryz.pinned (OpenSpec.ofChange txgNamesWrong)

/-- 'jettylaw17.SnapNames': WHATEVER THE INPUT: true; the input reads as it did. -/
def snapNamesSpec : ChangeSpec := { name := "snapNames", fn := fun _ => fun
  | [] => { results := [.lit (.bool true)], args := [] }
  | _ => none }
def snapNamesRow : OpenClaim := { program := "ytdbpihiihgkkdaagreat", sum := "92d85471531f6bbd3efd365e7db435d7b52f1ce3ed5f05bbcfc638fdc90e9a4b", func := "jetty/jettylaw17.SnapNames", spec := "snapNames", inPlace := ["slices.overlaps[string]", "maps.clone"], unfollowed := true, recurses := true, plainKeys := false, apart := false }
def SnapNamesSaid : Prop := snapNamesRow.holds Tryz.pinned (OpenSpec.ofChange snapNamesSpec)

/-- ITS FALSE NEIGHBOUR: 'it returns false'. Refute it at one input. -/
def snapNamesWrong : ChangeSpec := { name := "snapNames", fn := fun _ => fun
  | [] => { results := [.lit (.bool false)], args := [] }
  | _ => none }
def SnapNamesWrongFalsely : Prop := snapNamesRow.holds Tryz.pinned (OpenSpec.ofChange snapNamesWrong)

/- THE SECOND FORM. 'bulk': how many values and letters a reading holds, each counted each time it is reached (what is shared counts as often as it is met; a slice's spare places count too). A statement '..UptoSaid' is the law's where the arguments, and the package variables that the reading takes, are together of bulk at most 1048576: NARROWER than '..Said'. Prove '..Said' where nothing that the law and all that it calls make is longer than what came in: it says more and counts as full. Else prove '..UptoSaid'. A law counts once. -/
mutual
def uptoBulk {H : Type} : DataW H → Nat
  | .lit (.string bytes) => bytes.length + 1
  | .lit _ => 1
  | .nil => 1
  | .ptr d => uptoBulk d + 1
  | .slice elems spare => uptoBulkAll elems + uptoBulkAll spare + 1
  | .agg parts => uptoBulkAll parts + 1
  | .iface _ d => uptoBulk d + 1
  | .map entries => uptoBulkEntries entries + 1
  | .held _ => 1
def uptoBulkAll {H : Type} : List (DataW H) → Nat
  | [] => 0
  | d :: r => uptoBulk d + uptoBulkAll r
def uptoBulkEntries {H : Type} : List (Lit × DataW H) → Nat
  | [] => 0
  | x :: r => uptoBulkEntry x + uptoBulkEntries r
def uptoBulkEntry {H : Type} : Lit × DataW H → Nat
  | (.string bytes, d) => bytes.length + uptoBulk d + 1
  | (_, d) => uptoBulk d + 1
 end
def uptoSmall : (H : Type) → List (DataW H) → Bool := fun _ ds => decide (uptoBulkAll ds ≤ 1048576)
def OpenSpec.upto (s : _root_.Go.ChangeSpec) : _root_.Go.OpenSpec := { _root_.Go.OpenSpec.ofChange s with cond := some uptoSmall }

/-- 'jettylaw27.DrcNames', WHERE WHAT IT READS IS OF BULK AT MOST 1048576: true; the input reads as it did. -/
def drcNamesUptoRow : OpenClaim := { program := "ytdbpihiihgkkdaagreat", sum := "92d85471531f6bbd3efd365e7db435d7b52f1ce3ed5f05bbcfc638fdc90e9a4b", func := "jetty/jettylaw27.DrcNames", spec := "drcNames", inPlace := ["slices.overlaps[string]"], unfollowed := true, recurses := true, plainKeys := false, apart := false, narrowed := true }
def DrcNamesUptoSaid : Prop := drcNamesUptoRow.holds Tryz.pinned (OpenSpec.upto drcNamesSpec)

/-- 'jettylaw13.TreeNames', WHERE WHAT IT READS IS OF BULK AT MOST 1048576: true; the input reads as it did. -/
def treeNamesUptoRow : OpenClaim := { program := "ytdbpihiihgkkdaagreat", sum := "92d85471531f6bbd3efd365e7db435d7b52f1ce3ed5f05bbcfc638fdc90e9a4b", func := "jetty/jettylaw13.TreeNames", spec := "treeNames", inPlace := ["slices.overlaps[string]", "maps.clone"], unfollowed := true, recurses := true, plainKeys := false, apart := false, narrowed := true }
def TreeNamesUptoSaid : Prop := treeNamesUptoRow.holds Tryz.pinned (OpenSpec.upto treeNamesSpec)

/-- 'jettylaw14.WalkNames', WHERE WHAT IT READS IS OF BULK AT MOST 1048576: true; the input reads as it did. -/
def walkNamesUptoRow : OpenClaim := { program := "ytdbpihiihgkkdaagreat", sum := "92d85471531f6bbd3efd365e7db435d7b52f1ce3ed5f05bbcfc638fdc90e9a4b", func := "jetty/jettylaw14.WalkNames", spec := "walkNames", inPlace := ["slices.overlaps[string]"], unfollowed := true, recurses := true, plainKeys := false, apart := false, narrowed := true }
def WalkNamesUptoSaid : Prop := walkNamesUptoRow.holds Tryz.pinned (OpenSpec.upto walkNamesSpec)

/-- 'jettylaw15.TxgNames', WHERE WHAT IT READS IS OF BULK AT MOST 1048576: true; the input reads as it did. -/
def txgNamesUptoRow : OpenClaim := { program := "ytdbpihiihgkkdaagreat", sum := "92d85471531f6bbd3efd365e7db435d7b52f1ce3ed5f05bbcfc638fdc90e9a4b", func := "jetty/jettylaw15.TxgNames", spec := "txgNames", inPlace := ["slices.overlaps[string]", "maps.clone"], unfollowed := true, recurses := true, plainKeys := false, apart := false, narrowed := true }
def TxgNamesUptoSaid : Prop := txgNamesUptoRow.holds Tryz.pinned (OpenSpec.upto txgNamesSpec)

/-- 'jettylaw17.SnapNames', WHERE WHAT IT READS IS OF BULK AT MOST 1048576: true; the input reads as it did. -/
def snapNamesUptoRow : OpenClaim := { program := "ytdbpihiihgkkdaagreat", sum := "92d85471531f6bbd3efd365e7db435d7b52f1ce3ed5f05bbcfc638fdc90e9a4b", func := "jetty/jettylaw17.SnapNames", spec := "snapNames", inPlace := ["slices.overlaps[string]", "maps.clone"], unfollowed := true, recurses := true, plainKeys := false, apart := false, narrowed := true }
def SnapNamesUptoSaid : Prop := snapNamesUptoRow.holds Tryz.pinned (OpenSpec.upto snapNamesSpec)

end Rows
end Go.Proofs.YtdbpihiihgkkdaaGreat
