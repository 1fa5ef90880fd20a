/-
  No cell of these rows narrows 'for every input' (looked for: loops, veiled, ifaces, maps, wideKeys, modest, calm, conditions, laid).
  DERIVED. THE GIVEN ROWS OF THIS SEAT. 2 by the template 'for every input the law returns true; each argument reads behind the call as it read before'; 0 by the template 'total and deterministic' (their statements: YtomildjihlbbmaaTotals.lean).
  GIVEN WITH THE SEED: the statements are not yours to turn. If you find one false, say at which input.
  Laid BY PROGRAM, IN A SANDBOX (cutbox-rows.mjs): the forced cells as the released guide's own fill.sh prints them over the translation 7b84eb72e770e7b8… (all of the seat's roots in one cut). By AI agents, Wed Nov 11 2026. No macro, syntax, notation, axiom, sorry.
-/
import Derived.Test.YtomildjihlbbmaaChecked
import GoSem.Claim
import GoSem.ClaimJoined
import GoSem.ClaimMapViews
import Derived.JoinedTies
import Derived.KernelRfl
namespace Go.Proofs.Ytomildjihlbbmaa
/- THE CELL 'sum', in the pinned program and in every row, IS THE sha256 OF THE DUMP (.gsa) THAT YtomildjihlbbmaaProg.lean LOADS. Nothing in Lean hashes anything: it is a label: what it is worth is what the hold of that sum in a sandbox is worth. -/
noncomputable def Try.pinned : Pinned := { name := "ytomildjihlbbmaa", sum := "7b84eb72e770e7b855019c57958ce6f3b91b1d38798c5facdfbb4f0dcf4b6ee2", checked := Try.checked }
namespace Rows
def none {H : Type} : Left H := { results := [], args := [] }

/-- 'penumbralaw21.PackUnpacks': WHATEVER THE INPUT: true; the input reads as it did. -/
def packUnpacksSpec : ChangeSpec := { name := "packUnpacks", fn := fun _ => fun
  | [d] => { results := [.lit (.bool true)], args := [d] }
  | _ => none }
def packUnpacksRow : OpenClaim := { program := "ytomildjihlbbmaa", sum := "7b84eb72e770e7b855019c57958ce6f3b91b1d38798c5facdfbb4f0dcf4b6ee2", func := "penumbra/penumbralaw21.PackUnpacks", spec := "packUnpacks", inPlace := ["math.Float64bits", "math.Float32bits", "math.Float64frombits", "math.archFloor", "math.archTrunc", "math.Float32frombits"], unfollowed := true, recurses := true, apart := false }
def PackUnpacksSaid : Prop := packUnpacksRow.holds Try.pinned (OpenSpec.ofChange packUnpacksSpec)

/-- ITS FALSE NEIGHBOUR: 'it returns false'. Refute it at one input. -/
def packUnpacksWrong : ChangeSpec := { name := "packUnpacks", fn := fun _ => fun
  | [d] => { results := [.lit (.bool false)], args := [d] }
  | _ => none }
def PackUnpacksWrongFalsely : Prop := packUnpacksRow.holds Try.pinned (OpenSpec.ofChange packUnpacksWrong)

/-- 'penumbralaw22.VaultReads': WHATEVER THE INPUT: true; the input reads as it did. -/
def vaultReadsSpec : ChangeSpec := { name := "vaultReads", fn := fun _ => fun
  | [d1, d2] => { results := [.lit (.bool true)], args := [d1, d2] }
  | _ => none }
def vaultReadsRow : OpenClaim := { program := "ytomildjihlbbmaa", sum := "7b84eb72e770e7b855019c57958ce6f3b91b1d38798c5facdfbb4f0dcf4b6ee2", func := "penumbra/penumbralaw22.VaultReads", spec := "vaultReads", inPlace := ["math.Float64frombits", "math.Float32frombits", "math.Float64bits", "math.Float32bits", "math.archFloor", "math.archTrunc"], unfollowed := true, recurses := true, apart := false }
def VaultReadsSaid : Prop := vaultReadsRow.holds Try.pinned (OpenSpec.ofChange vaultReadsSpec)

/-- ITS FALSE NEIGHBOUR: 'it returns false'. Refute it at one input. -/
def vaultReadsWrong : ChangeSpec := { name := "vaultReads", fn := fun _ => fun
  | [d1, d2] => { results := [.lit (.bool false)], args := [d1, d2] }
  | _ => none }
def VaultReadsWrongFalsely : Prop := vaultReadsRow.holds Try.pinned (OpenSpec.ofChange vaultReadsWrong)

/- THE SECOND FORM. 'bulk': how many values and letters a reading holds, each counted each time it is reached (what is shared counts as often as it is met; a slice's spare places count too). A statement '..UptoSaid' is the law's where the arguments, and the package variables that the reading takes, are together of bulk at most 1048576: NARROWER than '..Said'. Prove '..Said' where nothing that the law and all that it calls make is longer than what came in: it says more and counts as full. Else prove '..UptoSaid'. A law counts once. -/
mutual
def uptoBulk {H : Type} : DataW H → Nat
  | .lit (.string bytes) => bytes.length + 1
  | .lit _ => 1
  | .nil => 1
  | .ptr d => uptoBulk d + 1
  | .slice elems spare => uptoBulkAll elems + uptoBulkAll spare + 1
  | .agg parts => uptoBulkAll parts + 1
  | .iface _ d => uptoBulk d + 1
  | .map entries => uptoBulkEntries entries + 1
  | .held _ => 1
def uptoBulkAll {H : Type} : List (DataW H) → Nat
  | [] => 0
  | d :: r => uptoBulk d + uptoBulkAll r
def uptoBulkEntries {H : Type} : List (Lit × DataW H) → Nat
  | [] => 0
  | x :: r => uptoBulkEntry x + uptoBulkEntries r
def uptoBulkEntry {H : Type} : Lit × DataW H → Nat
  | (.string bytes, d) => bytes.length + uptoBulk d + 1
  | (_, d) => uptoBulk d + 1
 end
def uptoSmall : (H : Type) → List (DataW H) → Bool := fun _ ds => decide (uptoBulkAll ds ≤ 1048576)
def OpenSpec.upto (s : _root_.Go.ChangeSpec) : _root_.Go.OpenSpec := { _root_.Go.OpenSpec.ofChange s with cond := some uptoSmall }

/-- 'penumbralaw21.PackUnpacks', WHERE WHAT IT READS IS OF BULK AT MOST 1048576: true; the input reads as it did. -/
def packUnpacksUptoRow : OpenClaim := { program := "ytomildjihlbbmaa", sum := "7b84eb72e770e7b855019c57958ce6f3b91b1d38798c5facdfbb4f0dcf4b6ee2", func := "penumbra/penumbralaw21.PackUnpacks", spec := "packUnpacks", inPlace := ["math.Float64bits", "math.Float32bits", "math.Float64frombits", "math.archFloor", "math.archTrunc", "math.Float32frombits"], unfollowed := true, recurses := true, apart := false, narrowed := true }
def PackUnpacksUptoSaid : Prop := packUnpacksUptoRow.holds Try.pinned (OpenSpec.upto packUnpacksSpec)

/-- 'penumbralaw22.VaultReads', WHERE WHAT IT READS IS OF BULK AT MOST 1048576: true; the input reads as it did. -/
def vaultReadsUptoRow : OpenClaim := { program := "ytomildjihlbbmaa", sum := "7b84eb72e770e7b855019c57958ce6f3b91b1d38798c5facdfbb4f0dcf4b6ee2", func := "penumbra/penumbralaw22.VaultReads", spec := "vaultReads", inPlace := ["math.Float64frombits", "math.Float32frombits", "math.Float64bits", "math.Float32bits", "math.archFloor", "math.archTrunc"], unfollowed := true, recurses := true, apart := false, narrowed := true }
def VaultReadsUptoSaid : Prop := vaultReadsUptoRow.holds Try.pinned (OpenSpec.upto vaultReadsSpec)

end Rows
end Go.Proofs.Ytomildjihlbbmaa
