/-
  No cell of these rows narrows 'for every input' (looked for: loops, veiled, ifaces, maps, wideKeys, modest, calm, conditions, laid).
  DERIVED. THE GIVEN ROWS OF THIS SEAT. 2 by the template 'for every input the law returns true; each argument reads behind the call as it read before'; 0 by the template 'total and deterministic' (their statements: YtjjeplgpgbhngaaGreatTotals.lean).
  GIVEN WITH THE SEED: the statements are not yours to turn. If you find one false, say at which input.
  Laid BY PROGRAM, IN A SANDBOX (cutbox-rows.mjs): the forced cells as the released guide's own fill.sh prints them over the translation 2fa98028fb089eae… (all of the seat's roots in one cut). By AI agents, Wed Nov 11 2026. No macro, syntax, notation, axiom, sorry.
-/
import Derived.Test.YtjjeplgpgbhngaaGreatChecked
import GoSem.Claim
import GoSem.ClaimJoined
import GoSem.ClaimMapViews
import Derived.JoinedTies
import Derived.KernelRfl
namespace Go.Proofs.YtjjeplgpgbhngaaGreat
/- THE CELL 'sum', in the pinned program and in every row, IS THE sha256 OF THE DUMP (.gsa) THAT YtjjeplgpgbhngaaGreatProg.lean LOADS. Nothing in Lean hashes anything: it is a label: what it is worth is what the hold of that sum in a sandbox is worth. -/
noncomputable def Tryz.pinned : Pinned := { name := "ytjjeplgpgbhngaagreat", sum := "2fa98028fb089eae91159ab48289c962f91d4725f016cdb69fe1690d6deb0123", checked := Tryz.checked }
namespace Rows
def none {H : Type} : Left H := { results := [], args := [] }

/-- 'jettylaw15.TxgIdle': WHATEVER THE INPUT: true; the input reads as it did. -/
def txgIdleSpec : ChangeSpec := { name := "txgIdle", fn := fun _ => fun
  | [d1, d2] => { results := [.lit (.bool true)], args := [d1, d2] }
  | _ => none }
def txgIdleRow : OpenClaim := { program := "ytjjeplgpgbhngaagreat", sum := "2fa98028fb089eae91159ab48289c962f91d4725f016cdb69fe1690d6deb0123", func := "jetty/jettylaw15.TxgIdle", spec := "txgIdle", inPlace := ["slices.overlaps[string]", "maps.clone"], unfollowed := true, recurses := true, apart := false }
def TxgIdleSaid : Prop := txgIdleRow.holds Tryz.pinned (OpenSpec.ofChange txgIdleSpec)

/-- ITS FALSE NEIGHBOUR: 'it returns false'. Refute it at one input. -/
def txgIdleWrong : ChangeSpec := { name := "txgIdle", fn := fun _ => fun
  | [d1, d2] => { results := [.lit (.bool false)], args := [d1, d2] }
  | _ => none }
def TxgIdleWrongFalsely : Prop := txgIdleRow.holds Tryz.pinned (OpenSpec.ofChange txgIdleWrong)

/-- 'jettylaw15.TxgWhole': WHATEVER THE INPUT: true; the input reads as it did. -/
def txgWholeSpec : ChangeSpec := { name := "txgWhole", fn := fun _ => fun
  | [d1, d2, d3] => { results := [.lit (.bool true)], args := [d1, d2, d3] }
  | _ => none }
def txgWholeRow : OpenClaim := { program := "ytjjeplgpgbhngaagreat", sum := "2fa98028fb089eae91159ab48289c962f91d4725f016cdb69fe1690d6deb0123", func := "jetty/jettylaw15.TxgWhole", spec := "txgWhole", inPlace := ["slices.overlaps[string]", "maps.clone"], unfollowed := true, recurses := true, apart := false }
def TxgWholeSaid : Prop := txgWholeRow.holds Tryz.pinned (OpenSpec.ofChange txgWholeSpec)

/-- ITS FALSE NEIGHBOUR: 'it returns false'. Refute it at one input. -/
def txgWholeWrong : ChangeSpec := { name := "txgWhole", fn := fun _ => fun
  | [d1, d2, d3] => { results := [.lit (.bool false)], args := [d1, d2, d3] }
  | _ => none }
def TxgWholeWrongFalsely : Prop := txgWholeRow.holds Tryz.pinned (OpenSpec.ofChange txgWholeWrong)

/- THE SECOND FORM. 'bulk': how many values and letters a reading holds, each counted each time it is reached (what is shared counts as often as it is met; a slice's spare places count too). A statement '..UptoSaid' is the law's where the arguments, and the package variables that the reading takes, are together of bulk at most 1048576: NARROWER than '..Said'. Prove '..Said' where nothing that the law and all that it calls make is longer than what came in: it says more and counts as full. Else prove '..UptoSaid'. A law counts once. -/
mutual
def uptoBulk {H : Type} : DataW H → Nat
  | .lit (.string bytes) => bytes.length + 1
  | .lit _ => 1
  | .nil => 1
  | .ptr d => uptoBulk d + 1
  | .slice elems spare => uptoBulkAll elems + uptoBulkAll spare + 1
  | .agg parts => uptoBulkAll parts + 1
  | .iface _ d => uptoBulk d + 1
  | .map entries => uptoBulkEntries entries + 1
  | .held _ => 1
def uptoBulkAll {H : Type} : List (DataW H) → Nat
  | [] => 0
  | d :: r => uptoBulk d + uptoBulkAll r
def uptoBulkEntries {H : Type} : List (Lit × DataW H) → Nat
  | [] => 0
  | x :: r => uptoBulkEntry x + uptoBulkEntries r
def uptoBulkEntry {H : Type} : Lit × DataW H → Nat
  | (.string bytes, d) => bytes.length + uptoBulk d + 1
  | (_, d) => uptoBulk d + 1
 end
def uptoSmall : (H : Type) → List (DataW H) → Bool := fun _ ds => decide (uptoBulkAll ds ≤ 1048576)
def OpenSpec.upto (s : _root_.Go.ChangeSpec) : _root_.Go.OpenSpec := { _root_.Go.OpenSpec.ofChange s with cond := some uptoSmall }

/-- 'jettylaw15.TxgIdle', WHERE WHAT IT READS IS OF BULK AT MOST 1048576: true; the input reads as it did. -/
def txgIdleUptoRow : OpenClaim := { program := "ytjjeplgpgbhngaagreat", sum := "2fa98028fb089eae91159ab48289c962f91d4725f016cdb69fe1690d6deb0123", func := "jetty/jettylaw15.TxgIdle", spec := "txgIdle", inPlace := ["slices.overlaps[string]", "maps.clone"], unfollowed := true, recurses := true, apart := false, narrowed := true }
def TxgIdleUptoSaid : Prop := txgIdleUptoRow.holds Tryz.pinned (OpenSpec.upto txgIdleSpec)

/-- 'jettylaw15.TxgWhole', WHERE WHAT IT READS IS OF BULK AT MOST 1048576: true; the input reads as it did. -/
def txgWholeUptoRow : OpenClaim := { program := "ytjjeplgpgbhngaagreat", sum := "2fa98028fb089eae91159ab48289c962f91d4725f016cdb69fe1690d6deb0123", func := "jetty/jettylaw15.TxgWhole", spec := "txgWhole", inPlace := ["slices.overlaps[string]", "maps.clone"], unfollowed := true, recurses := true, apart := false, narrowed := true }
def TxgWholeUptoSaid : Prop := txgWholeUptoRow.holds Tryz.pinned (OpenSpec.upto txgWholeSpec)

end Rows
end Go.Proofs.YtjjeplgpgbhngaaGreat
