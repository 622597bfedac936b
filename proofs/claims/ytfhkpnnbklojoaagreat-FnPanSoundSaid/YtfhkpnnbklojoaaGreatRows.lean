/-
  No cell of these rows narrows 'for every input' (looked for: loops, veiled, ifaces, maps, wideKeys, modest, calm, conditions, laid).
  DERIVED. THE GIVEN ROWS OF THIS SEAT. 3 by the template 'for every input the law returns true; each argument reads behind the call as it read before'; 0 by the template 'total and deterministic' (their statements: YtfhkpnnbklojoaaGreatTotals.lean).
  GIVEN WITH THE SEED: the statements are not yours to turn. If you find one false, say at which input.
  Laid BY PROGRAM, IN A SANDBOX (cutbox-rows.mjs): the forced cells as the released guide's own fill.sh prints them over the translation 8666e701e43210f7… (all of the seat's roots in one cut). By AI agents, Wed Nov 11 2026. No macro, syntax, notation, axiom, sorry.
-/
import Derived.Test.YtfhkpnnbklojoaaGreatChecked
import GoSem.Claim
import GoSem.ClaimJoined
import GoSem.ClaimMapViews
import Derived.JoinedTies
import Derived.KernelRfl
namespace Go.Proofs.YtfhkpnnbklojoaaGreat
/- THE CELL 'sum', in the pinned program and in every row, IS THE sha256 OF THE DUMP (.gsa) THAT YtfhkpnnbklojoaaGreatProg.lean LOADS. Nothing in Lean hashes anything: it is a label: what it is worth is what the hold of that sum in a sandbox is worth. -/
noncomputable def Tryz.pinned : Pinned := { name := "ytfhkpnnbklojoaagreat", sum := "8666e701e43210f7b66679301fe9c1aa4988daa408065dc3704901c20f5401df", checked := Tryz.checked }
namespace Rows
def none {H : Type} : Left H := { results := [], args := [] }

/-- 'laws.FnFloNew': WHATEVER THE INPUT: true; the input reads as it did. -/
def fnFloNewSpec : ChangeSpec := { name := "fnFloNew", fn := fun _ => fun
  | [d] => { results := [.lit (.bool true)], args := [d] }
  | _ => none }
def fnFloNewRow : OpenClaim := { program := "ytfhkpnnbklojoaagreat", sum := "8666e701e43210f7b66679301fe9c1aa4988daa408065dc3704901c20f5401df", func := "loop.example/freshet/laws.FnFloNew", spec := "fnFloNew", unfollowed := true, recurses := true, apart := false }
def FnFloNewSaid : Prop := fnFloNewRow.holds Tryz.pinned (OpenSpec.ofChange fnFloNewSpec)

/-- ITS FALSE NEIGHBOUR: 'it returns false'. Refute it at one input. -/
def fnFloNewWrong : ChangeSpec := { name := "fnFloNew", fn := fun _ => fun
  | [d] => { results := [.lit (.bool false)], args := [d] }
  | _ => none }
def FnFloNewWrongFalsely : Prop := fnFloNewRow.holds Tryz.pinned (OpenSpec.ofChange fnFloNewWrong)

/-- 'laws.FnPanSound': WHATEVER THE INPUT: true; the input reads as it did. -/
def fnPanSoundSpec : ChangeSpec := { name := "fnPanSound", fn := fun _ => fun
  | [d] => { results := [.lit (.bool true)], args := [d] }
  | _ => none }
def fnPanSoundRow : OpenClaim := { program := "ytfhkpnnbklojoaagreat", sum := "8666e701e43210f7b66679301fe9c1aa4988daa408065dc3704901c20f5401df", func := "loop.example/freshet/laws.FnPanSound", spec := "fnPanSound", unfollowed := true, recurses := true, apart := false }
def FnPanSoundSaid : Prop := fnPanSoundRow.holds Tryz.pinned (OpenSpec.ofChange fnPanSoundSpec)

/-- ITS FALSE NEIGHBOUR: 'it returns false'. Refute it at one input. -/
def fnPanSoundWrong : ChangeSpec := { name := "fnPanSound", fn := fun _ => fun
  | [d] => { results := [.lit (.bool false)], args := [d] }
  | _ => none }
def FnPanSoundWrongFalsely : Prop := fnPanSoundRow.holds Tryz.pinned (OpenSpec.ofChange fnPanSoundWrong)

/-- 'laws.FnCkpSave': WHATEVER THE INPUT: true; the input reads as it did. -/
def fnCkpSaveSpec : ChangeSpec := { name := "fnCkpSave", fn := fun _ => fun
  | [d] => { results := [.lit (.bool true)], args := [d] }
  | _ => none }
def fnCkpSaveRow : OpenClaim := { program := "ytfhkpnnbklojoaagreat", sum := "8666e701e43210f7b66679301fe9c1aa4988daa408065dc3704901c20f5401df", func := "loop.example/freshet/laws.FnCkpSave", spec := "fnCkpSave", unfollowed := true, recurses := true, apart := false }
def FnCkpSaveSaid : Prop := fnCkpSaveRow.holds Tryz.pinned (OpenSpec.ofChange fnCkpSaveSpec)

/-- ITS FALSE NEIGHBOUR: 'it returns false'. Refute it at one input. -/
def fnCkpSaveWrong : ChangeSpec := { name := "fnCkpSave", fn := fun _ => fun
  | [d] => { results := [.lit (.bool false)], args := [d] }
  | _ => none }
def FnCkpSaveWrongFalsely : Prop := fnCkpSaveRow.holds Tryz.pinned (OpenSpec.ofChange fnCkpSaveWrong)

/- THE SECOND FORM. 'bulk': how many values and letters a reading holds, each counted each time it is reached (what is shared counts as often as it is met; a slice's spare places count too). A statement '..UptoSaid' is the law's where the arguments, and the package variables that the reading takes, are together of bulk at most 1048576: NARROWER than '..Said'. Prove '..Said' where nothing that the law and all that it calls make is longer than what came in: it says more and counts as full. Else prove '..UptoSaid'. A law counts once. -/
mutual
def uptoBulk {H : Type} : DataW H → Nat
  | .lit (.string bytes) => bytes.length + 1
  | .lit _ => 1
  | .nil => 1
  | .ptr d => uptoBulk d + 1
  | .slice elems spare => uptoBulkAll elems + uptoBulkAll spare + 1
  | .agg parts => uptoBulkAll parts + 1
  | .iface _ d => uptoBulk d + 1
  | .map entries => uptoBulkEntries entries + 1
  | .held _ => 1
def uptoBulkAll {H : Type} : List (DataW H) → Nat
  | [] => 0
  | d :: r => uptoBulk d + uptoBulkAll r
def uptoBulkEntries {H : Type} : List (Lit × DataW H) → Nat
  | [] => 0
  | x :: r => uptoBulkEntry x + uptoBulkEntries r
def uptoBulkEntry {H : Type} : Lit × DataW H → Nat
  | (.string bytes, d) => bytes.length + uptoBulk d + 1
  | (_, d) => uptoBulk d + 1
 end
def uptoSmall : (H : Type) → List (DataW H) → Bool := fun _ ds => decide (uptoBulkAll ds ≤ 1048576)
def OpenSpec.upto (s : _root_.Go.ChangeSpec) : _root_.Go.OpenSpec := { _root_.Go.OpenSpec.ofChange s with cond := some uptoSmall }

/-- 'laws.FnFloNew', WHERE WHAT IT READS IS OF BULK AT MOST 1048576: true; the input reads as it did. -/
def fnFloNewUptoRow : OpenClaim := { program := "ytfhkpnnbklojoaagreat", sum := "8666e701e43210f7b66679301fe9c1aa4988daa408065dc3704901c20f5401df", func := "loop.example/freshet/laws.FnFloNew", spec := "fnFloNew", unfollowed := true, recurses := true, apart := false, narrowed := true }
def FnFloNewUptoSaid : Prop := fnFloNewUptoRow.holds Tryz.pinned (OpenSpec.upto fnFloNewSpec)

/-- 'laws.FnPanSound', WHERE WHAT IT READS IS OF BULK AT MOST 1048576: true; the input reads as it did. -/
def fnPanSoundUptoRow : OpenClaim := { program := "ytfhkpnnbklojoaagreat", sum := "8666e701e43210f7b66679301fe9c1aa4988daa408065dc3704901c20f5401df", func := "loop.example/freshet/laws.FnPanSound", spec := "fnPanSound", unfollowed := true, recurses := true, apart := false, narrowed := true }
def FnPanSoundUptoSaid : Prop := fnPanSoundUptoRow.holds Tryz.pinned (OpenSpec.upto fnPanSoundSpec)

/-- 'laws.FnCkpSave', WHERE WHAT IT READS IS OF BULK AT MOST 1048576: true; the input reads as it did. -/
def fnCkpSaveUptoRow : OpenClaim := { program := "ytfhkpnnbklojoaagreat", sum := "8666e701e43210f7b66679301fe9c1aa4988daa408065dc3704901c20f5401df", func := "loop.example/freshet/laws.FnCkpSave", spec := "fnCkpSave", unfollowed := true, recurses := true, apart := false, narrowed := true }
def FnCkpSaveUptoSaid : Prop := fnCkpSaveUptoRow.holds Tryz.pinned (OpenSpec.upto fnCkpSaveSpec)

end Rows
end Go.Proofs.YtfhkpnnbklojoaaGreat
