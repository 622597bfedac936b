/-
  No cell of these rows narrows 'for every input' (looked for: loops, veiled, ifaces, maps, wideKeys, modest, calm, conditions, laid).
  DERIVED. THE GIVEN ROWS OF THIS SEAT. 12 by the template 'for every input the law returns true; each argument reads behind the call as it read before'; 0 by the template 'total and deterministic' (their statements: YteecakkojdhmaaaGreatTotals.lean).
  GIVEN WITH THE SEED: the statements are not yours to turn. If you find one false, say at which input.
  Laid BY PROGRAM, IN A SANDBOX (cutbox-rows.mjs): the forced cells as the released guide's own fill.sh prints them over the translation 4c804e9a3839dfc5… (all of the seat's roots in one cut). By AI agents, Wed Nov 11 2026. No macro, syntax, notation, axiom, sorry.
-/
import Derived.Test.YteecakkojdhmaaaGreatChecked
import GoSem.Claim
import GoSem.ClaimJoined
import GoSem.ClaimMapViews
import Derived.JoinedTies
import Derived.KernelRfl
namespace Go.Proofs.YteecakkojdhmaaaGreat
/- THE CELL 'sum', in the pinned program and in every row, IS THE sha256 OF THE DUMP (.gsa) THAT YteecakkojdhmaaaGreatProg.lean LOADS. Nothing in Lean hashes anything: it is a label: what it is worth is what the hold of that sum in a sandbox is worth. -/
noncomputable def Tryz.pinned : Pinned := { name := "yteecakkojdhmaaagreat", sum := "4c804e9a3839dfc54b6a2e42279a16a40c03333f9dbeeb3cf25cdfa2e3b3b91c", checked := Tryz.checked }
namespace Rows
def none {H : Type} : Left H := { results := [], args := [] }

/-- 'laws.FnTskPut': WHATEVER THE INPUT: true; the input reads as it did. -/
def fnTskPutSpec : ChangeSpec := { name := "fnTskPut", fn := fun _ => fun
  | [d] => { results := [.lit (.bool true)], args := [d] }
  | _ => none }
def fnTskPutRow : OpenClaim := { program := "yteecakkojdhmaaagreat", sum := "4c804e9a3839dfc54b6a2e42279a16a40c03333f9dbeeb3cf25cdfa2e3b3b91c", func := "loop.example/freshet/laws.FnTskPut", spec := "fnTskPut", unfollowed := true, recurses := true, apart := false }
def FnTskPutSaid : Prop := fnTskPutRow.holds Tryz.pinned (OpenSpec.ofChange fnTskPutSpec)

/-- ITS FALSE NEIGHBOUR: 'it returns false'. Refute it at one input. -/
def fnTskPutWrong : ChangeSpec := { name := "fnTskPut", fn := fun _ => fun
  | [d] => { results := [.lit (.bool false)], args := [d] }
  | _ => none }
def FnTskPutWrongFalsely : Prop := fnTskPutRow.holds Tryz.pinned (OpenSpec.ofChange fnTskPutWrong)

/-- 'laws.FnFloRecs': WHATEVER THE INPUT: true; the input reads as it did. -/
def fnFloRecsSpec : ChangeSpec := { name := "fnFloRecs", fn := fun _ => fun
  | [d] => { results := [.lit (.bool true)], args := [d] }
  | _ => none }
def fnFloRecsRow : OpenClaim := { program := "yteecakkojdhmaaagreat", sum := "4c804e9a3839dfc54b6a2e42279a16a40c03333f9dbeeb3cf25cdfa2e3b3b91c", func := "loop.example/freshet/laws.FnFloRecs", spec := "fnFloRecs", unfollowed := true, recurses := true, apart := false }
def FnFloRecsSaid : Prop := fnFloRecsRow.holds Tryz.pinned (OpenSpec.ofChange fnFloRecsSpec)

/-- ITS FALSE NEIGHBOUR: 'it returns false'. Refute it at one input. -/
def fnFloRecsWrong : ChangeSpec := { name := "fnFloRecs", fn := fun _ => fun
  | [d] => { results := [.lit (.bool false)], args := [d] }
  | _ => none }
def FnFloRecsWrongFalsely : Prop := fnFloRecsRow.holds Tryz.pinned (OpenSpec.ofChange fnFloRecsWrong)

/-- 'laws.FnFloPanes': WHATEVER THE INPUT: true; the input reads as it did. -/
def fnFloPanesSpec : ChangeSpec := { name := "fnFloPanes", fn := fun _ => fun
  | [d] => { results := [.lit (.bool true)], args := [d] }
  | _ => none }
def fnFloPanesRow : OpenClaim := { program := "yteecakkojdhmaaagreat", sum := "4c804e9a3839dfc54b6a2e42279a16a40c03333f9dbeeb3cf25cdfa2e3b3b91c", func := "loop.example/freshet/laws.FnFloPanes", spec := "fnFloPanes", inPlace := ["slices.overlaps[loop.example/freshet/impl.TabRow]"], unfollowed := true, recurses := true, apart := false }
def FnFloPanesSaid : Prop := fnFloPanesRow.holds Tryz.pinned (OpenSpec.ofChange fnFloPanesSpec)

/-- ITS FALSE NEIGHBOUR: 'it returns false'. Refute it at one input. -/
def fnFloPanesWrong : ChangeSpec := { name := "fnFloPanes", fn := fun _ => fun
  | [d] => { results := [.lit (.bool false)], args := [d] }
  | _ => none }
def FnFloPanesWrongFalsely : Prop := fnFloPanesRow.holds Tryz.pinned (OpenSpec.ofChange fnFloPanesWrong)

/-- 'laws.FnTskMarks': WHATEVER THE INPUT: true; the input reads as it did. -/
def fnTskMarksSpec : ChangeSpec := { name := "fnTskMarks", fn := fun _ => fun
  | [d] => { results := [.lit (.bool true)], args := [d] }
  | _ => none }
def fnTskMarksRow : OpenClaim := { program := "yteecakkojdhmaaagreat", sum := "4c804e9a3839dfc54b6a2e42279a16a40c03333f9dbeeb3cf25cdfa2e3b3b91c", func := "loop.example/freshet/laws.FnTskMarks", spec := "fnTskMarks", inPlace := ["slices.overlaps[loop.example/freshet/impl.OpRow]"], unfollowed := true, recurses := true, apart := false }
def FnTskMarksSaid : Prop := fnTskMarksRow.holds Tryz.pinned (OpenSpec.ofChange fnTskMarksSpec)

/-- ITS FALSE NEIGHBOUR: 'it returns false'. Refute it at one input. -/
def fnTskMarksWrong : ChangeSpec := { name := "fnTskMarks", fn := fun _ => fun
  | [d] => { results := [.lit (.bool false)], args := [d] }
  | _ => none }
def FnTskMarksWrongFalsely : Prop := fnTskMarksRow.holds Tryz.pinned (OpenSpec.ofChange fnTskMarksWrong)

/-- 'laws.FnTskStep': WHATEVER THE INPUT: true; the input reads as it did. -/
def fnTskStepSpec : ChangeSpec := { name := "fnTskStep", fn := fun _ => fun
  | [d] => { results := [.lit (.bool true)], args := [d] }
  | _ => none }
def fnTskStepRow : OpenClaim := { program := "yteecakkojdhmaaagreat", sum := "4c804e9a3839dfc54b6a2e42279a16a40c03333f9dbeeb3cf25cdfa2e3b3b91c", func := "loop.example/freshet/laws.FnTskStep", spec := "fnTskStep", inPlace := ["slices.overlaps[loop.example/freshet/impl.OpRow]"], unfollowed := true, recurses := true, apart := false }
def FnTskStepSaid : Prop := fnTskStepRow.holds Tryz.pinned (OpenSpec.ofChange fnTskStepSpec)

/-- ITS FALSE NEIGHBOUR: 'it returns false'. Refute it at one input. -/
def fnTskStepWrong : ChangeSpec := { name := "fnTskStep", fn := fun _ => fun
  | [d] => { results := [.lit (.bool false)], args := [d] }
  | _ => none }
def FnTskStepWrongFalsely : Prop := fnTskStepRow.holds Tryz.pinned (OpenSpec.ofChange fnTskStepWrong)

/-- 'laws.FnTskTells': WHATEVER THE INPUT: true; the input reads as it did. -/
def fnTskTellsSpec : ChangeSpec := { name := "fnTskTells", fn := fun _ => fun
  | [d] => { results := [.lit (.bool true)], args := [d] }
  | _ => none }
def fnTskTellsRow : OpenClaim := { program := "yteecakkojdhmaaagreat", sum := "4c804e9a3839dfc54b6a2e42279a16a40c03333f9dbeeb3cf25cdfa2e3b3b91c", func := "loop.example/freshet/laws.FnTskTells", spec := "fnTskTells", inPlace := ["slices.overlaps[loop.example/freshet/impl.OpRow]"], unfollowed := true, recurses := true, apart := false }
def FnTskTellsSaid : Prop := fnTskTellsRow.holds Tryz.pinned (OpenSpec.ofChange fnTskTellsSpec)

/-- ITS FALSE NEIGHBOUR: 'it returns false'. Refute it at one input. -/
def fnTskTellsWrong : ChangeSpec := { name := "fnTskTells", fn := fun _ => fun
  | [d] => { results := [.lit (.bool false)], args := [d] }
  | _ => none }
def FnTskTellsWrongFalsely : Prop := fnTskTellsRow.holds Tryz.pinned (OpenSpec.ofChange fnTskTellsWrong)

/-- 'laws.FnTskWall': WHATEVER THE INPUT: true; the input reads as it did. -/
def fnTskWallSpec : ChangeSpec := { name := "fnTskWall", fn := fun _ => fun
  | [d] => { results := [.lit (.bool true)], args := [d] }
  | _ => none }
def fnTskWallRow : OpenClaim := { program := "yteecakkojdhmaaagreat", sum := "4c804e9a3839dfc54b6a2e42279a16a40c03333f9dbeeb3cf25cdfa2e3b3b91c", func := "loop.example/freshet/laws.FnTskWall", spec := "fnTskWall", inPlace := ["slices.overlaps[loop.example/freshet/impl.OpRow]"], unfollowed := true, recurses := true, apart := false }
def FnTskWallSaid : Prop := fnTskWallRow.holds Tryz.pinned (OpenSpec.ofChange fnTskWallSpec)

/-- ITS FALSE NEIGHBOUR: 'it returns false'. Refute it at one input. -/
def fnTskWallWrong : ChangeSpec := { name := "fnTskWall", fn := fun _ => fun
  | [d] => { results := [.lit (.bool false)], args := [d] }
  | _ => none }
def FnTskWallWrongFalsely : Prop := fnTskWallRow.holds Tryz.pinned (OpenSpec.ofChange fnTskWallWrong)

/-- 'laws.FnFloStays': WHATEVER THE INPUT: true; the input reads as it did. -/
def fnFloStaysSpec : ChangeSpec := { name := "fnFloStays", fn := fun _ => fun
  | [d] => { results := [.lit (.bool true)], args := [d] }
  | _ => none }
def fnFloStaysRow : OpenClaim := { program := "yteecakkojdhmaaagreat", sum := "4c804e9a3839dfc54b6a2e42279a16a40c03333f9dbeeb3cf25cdfa2e3b3b91c", func := "loop.example/freshet/laws.FnFloStays", spec := "fnFloStays", inPlace := ["slices.overlaps[loop.example/freshet/impl.OpRow]"], unfollowed := true, recurses := true, apart := false }
def FnFloStaysSaid : Prop := fnFloStaysRow.holds Tryz.pinned (OpenSpec.ofChange fnFloStaysSpec)

/-- ITS FALSE NEIGHBOUR: 'it returns false'. Refute it at one input. -/
def fnFloStaysWrong : ChangeSpec := { name := "fnFloStays", fn := fun _ => fun
  | [d] => { results := [.lit (.bool false)], args := [d] }
  | _ => none }
def FnFloStaysWrongFalsely : Prop := fnFloStaysRow.holds Tryz.pinned (OpenSpec.ofChange fnFloStaysWrong)

/-- 'laws.FnFloRoom': WHATEVER THE INPUT: true; the input reads as it did. -/
def fnFloRoomSpec : ChangeSpec := { name := "fnFloRoom", fn := fun _ => fun
  | [d] => { results := [.lit (.bool true)], args := [d] }
  | _ => none }
def fnFloRoomRow : OpenClaim := { program := "yteecakkojdhmaaagreat", sum := "4c804e9a3839dfc54b6a2e42279a16a40c03333f9dbeeb3cf25cdfa2e3b3b91c", func := "loop.example/freshet/laws.FnFloRoom", spec := "fnFloRoom", inPlace := ["slices.overlaps[loop.example/freshet/impl.OpRow]"], unfollowed := true, recurses := true, apart := false }
def FnFloRoomSaid : Prop := fnFloRoomRow.holds Tryz.pinned (OpenSpec.ofChange fnFloRoomSpec)

/-- ITS FALSE NEIGHBOUR: 'it returns false'. Refute it at one input. -/
def fnFloRoomWrong : ChangeSpec := { name := "fnFloRoom", fn := fun _ => fun
  | [d] => { results := [.lit (.bool false)], args := [d] }
  | _ => none }
def FnFloRoomWrongFalsely : Prop := fnFloRoomRow.holds Tryz.pinned (OpenSpec.ofChange fnFloRoomWrong)

/-- 'laws.FnFloSafe': WHATEVER THE INPUT: true; the input reads as it did. -/
def fnFloSafeSpec : ChangeSpec := { name := "fnFloSafe", fn := fun _ => fun
  | [d] => { results := [.lit (.bool true)], args := [d] }
  | _ => none }
def fnFloSafeRow : OpenClaim := { program := "yteecakkojdhmaaagreat", sum := "4c804e9a3839dfc54b6a2e42279a16a40c03333f9dbeeb3cf25cdfa2e3b3b91c", func := "loop.example/freshet/laws.FnFloSafe", spec := "fnFloSafe", inPlace := ["slices.overlaps[loop.example/freshet/impl.OpRow]"], unfollowed := true, recurses := true, apart := false }
def FnFloSafeSaid : Prop := fnFloSafeRow.holds Tryz.pinned (OpenSpec.ofChange fnFloSafeSpec)

/-- ITS FALSE NEIGHBOUR: 'it returns false'. Refute it at one input. -/
def fnFloSafeWrong : ChangeSpec := { name := "fnFloSafe", fn := fun _ => fun
  | [d] => { results := [.lit (.bool false)], args := [d] }
  | _ => none }
def FnFloSafeWrongFalsely : Prop := fnFloSafeRow.holds Tryz.pinned (OpenSpec.ofChange fnFloSafeWrong)

/-- 'laws.FnFloSnap': WHATEVER THE INPUT: true; the input reads as it did. -/
def fnFloSnapSpec : ChangeSpec := { name := "fnFloSnap", fn := fun _ => fun
  | [d] => { results := [.lit (.bool true)], args := [d] }
  | _ => none }
def fnFloSnapRow : OpenClaim := { program := "yteecakkojdhmaaagreat", sum := "4c804e9a3839dfc54b6a2e42279a16a40c03333f9dbeeb3cf25cdfa2e3b3b91c", func := "loop.example/freshet/laws.FnFloSnap", spec := "fnFloSnap", inPlace := ["slices.overlaps[loop.example/freshet/impl.OpRow]"], unfollowed := true, recurses := true, apart := false }
def FnFloSnapSaid : Prop := fnFloSnapRow.holds Tryz.pinned (OpenSpec.ofChange fnFloSnapSpec)

/-- ITS FALSE NEIGHBOUR: 'it returns false'. Refute it at one input. -/
def fnFloSnapWrong : ChangeSpec := { name := "fnFloSnap", fn := fun _ => fun
  | [d] => { results := [.lit (.bool false)], args := [d] }
  | _ => none }
def FnFloSnapWrongFalsely : Prop := fnFloSnapRow.holds Tryz.pinned (OpenSpec.ofChange fnFloSnapWrong)

/-- 'laws.FnFloTasks': WHATEVER THE INPUT: true; the input reads as it did. -/
def fnFloTasksSpec : ChangeSpec := { name := "fnFloTasks", fn := fun _ => fun
  | [d] => { results := [.lit (.bool true)], args := [d] }
  | _ => none }
def fnFloTasksRow : OpenClaim := { program := "yteecakkojdhmaaagreat", sum := "4c804e9a3839dfc54b6a2e42279a16a40c03333f9dbeeb3cf25cdfa2e3b3b91c", func := "loop.example/freshet/laws.FnFloTasks", spec := "fnFloTasks", inPlace := ["slices.overlaps[loop.example/freshet/impl.OpRow]"], unfollowed := true, recurses := true, apart := false }
def FnFloTasksSaid : Prop := fnFloTasksRow.holds Tryz.pinned (OpenSpec.ofChange fnFloTasksSpec)

/-- ITS FALSE NEIGHBOUR: 'it returns false'. Refute it at one input. -/
def fnFloTasksWrong : ChangeSpec := { name := "fnFloTasks", fn := fun _ => fun
  | [d] => { results := [.lit (.bool false)], args := [d] }
  | _ => none }
def FnFloTasksWrongFalsely : Prop := fnFloTasksRow.holds Tryz.pinned (OpenSpec.ofChange fnFloTasksWrong)

/- THE SECOND FORM. 'bulk': how many values and letters a reading holds, each counted each time it is reached (what is shared counts as often as it is met; a slice's spare places count too). A statement '..UptoSaid' is the law's where the arguments, and the package variables that the reading takes, are together of bulk at most 1048576: NARROWER than '..Said'. Prove '..Said' where nothing that the law and all that it calls make is longer than what came in: it says more and counts as full. Else prove '..UptoSaid'. A law counts once. -/
mutual
def uptoBulk {H : Type} : DataW H → Nat
  | .lit (.string bytes) => bytes.length + 1
  | .lit _ => 1
  | .nil => 1
  | .ptr d => uptoBulk d + 1
  | .slice elems spare => uptoBulkAll elems + uptoBulkAll spare + 1
  | .agg parts => uptoBulkAll parts + 1
  | .iface _ d => uptoBulk d + 1
  | .map entries => uptoBulkEntries entries + 1
  | .held _ => 1
def uptoBulkAll {H : Type} : List (DataW H) → Nat
  | [] => 0
  | d :: r => uptoBulk d + uptoBulkAll r
def uptoBulkEntries {H : Type} : List (Lit × DataW H) → Nat
  | [] => 0
  | x :: r => uptoBulkEntry x + uptoBulkEntries r
def uptoBulkEntry {H : Type} : Lit × DataW H → Nat
  | (.string bytes, d) => bytes.length + uptoBulk d + 1
  | (_, d) => uptoBulk d + 1
 end
def uptoSmall : (H : Type) → List (DataW H) → Bool := fun _ ds => decide (uptoBulkAll ds ≤ 1048576)
def OpenSpec.upto (s : _root_.Go.ChangeSpec) : _root_.Go.OpenSpec := { _root_.Go.OpenSpec.ofChange s with cond := some uptoSmall }

/-- 'laws.FnTskPut', WHERE WHAT IT READS IS OF BULK AT MOST 1048576: true; the input reads as it did. -/
def fnTskPutUptoRow : OpenClaim := { program := "yteecakkojdhmaaagreat", sum := "4c804e9a3839dfc54b6a2e42279a16a40c03333f9dbeeb3cf25cdfa2e3b3b91c", func := "loop.example/freshet/laws.FnTskPut", spec := "fnTskPut", unfollowed := true, recurses := true, apart := false, narrowed := true }
def FnTskPutUptoSaid : Prop := fnTskPutUptoRow.holds Tryz.pinned (OpenSpec.upto fnTskPutSpec)

/-- 'laws.FnFloRecs', WHERE WHAT IT READS IS OF BULK AT MOST 1048576: true; the input reads as it did. -/
def fnFloRecsUptoRow : OpenClaim := { program := "yteecakkojdhmaaagreat", sum := "4c804e9a3839dfc54b6a2e42279a16a40c03333f9dbeeb3cf25cdfa2e3b3b91c", func := "loop.example/freshet/laws.FnFloRecs", spec := "fnFloRecs", unfollowed := true, recurses := true, apart := false, narrowed := true }
def FnFloRecsUptoSaid : Prop := fnFloRecsUptoRow.holds Tryz.pinned (OpenSpec.upto fnFloRecsSpec)

/-- 'laws.FnFloPanes', WHERE WHAT IT READS IS OF BULK AT MOST 1048576: true; the input reads as it did. -/
def fnFloPanesUptoRow : OpenClaim := { program := "yteecakkojdhmaaagreat", sum := "4c804e9a3839dfc54b6a2e42279a16a40c03333f9dbeeb3cf25cdfa2e3b3b91c", func := "loop.example/freshet/laws.FnFloPanes", spec := "fnFloPanes", inPlace := ["slices.overlaps[loop.example/freshet/impl.TabRow]"], unfollowed := true, recurses := true, apart := false, narrowed := true }
def FnFloPanesUptoSaid : Prop := fnFloPanesUptoRow.holds Tryz.pinned (OpenSpec.upto fnFloPanesSpec)

/-- 'laws.FnTskMarks', WHERE WHAT IT READS IS OF BULK AT MOST 1048576: true; the input reads as it did. -/
def fnTskMarksUptoRow : OpenClaim := { program := "yteecakkojdhmaaagreat", sum := "4c804e9a3839dfc54b6a2e42279a16a40c03333f9dbeeb3cf25cdfa2e3b3b91c", func := "loop.example/freshet/laws.FnTskMarks", spec := "fnTskMarks", inPlace := ["slices.overlaps[loop.example/freshet/impl.OpRow]"], unfollowed := true, recurses := true, apart := false, narrowed := true }
def FnTskMarksUptoSaid : Prop := fnTskMarksUptoRow.holds Tryz.pinned (OpenSpec.upto fnTskMarksSpec)

/-- 'laws.FnTskStep', WHERE WHAT IT READS IS OF BULK AT MOST 1048576: true; the input reads as it did. -/
def fnTskStepUptoRow : OpenClaim := { program := "yteecakkojdhmaaagreat", sum := "4c804e9a3839dfc54b6a2e42279a16a40c03333f9dbeeb3cf25cdfa2e3b3b91c", func := "loop.example/freshet/laws.FnTskStep", spec := "fnTskStep", inPlace := ["slices.overlaps[loop.example/freshet/impl.OpRow]"], unfollowed := true, recurses := true, apart := false, narrowed := true }
def FnTskStepUptoSaid : Prop := fnTskStepUptoRow.holds Tryz.pinned (OpenSpec.upto fnTskStepSpec)

/-- 'laws.FnTskTells', WHERE WHAT IT READS IS OF BULK AT MOST 1048576: true; the input reads as it did. -/
def fnTskTellsUptoRow : OpenClaim := { program := "yteecakkojdhmaaagreat", sum := "4c804e9a3839dfc54b6a2e42279a16a40c03333f9dbeeb3cf25cdfa2e3b3b91c", func := "loop.example/freshet/laws.FnTskTells", spec := "fnTskTells", inPlace := ["slices.overlaps[loop.example/freshet/impl.OpRow]"], unfollowed := true, recurses := true, apart := false, narrowed := true }
def FnTskTellsUptoSaid : Prop := fnTskTellsUptoRow.holds Tryz.pinned (OpenSpec.upto fnTskTellsSpec)

/-- 'laws.FnTskWall', WHERE WHAT IT READS IS OF BULK AT MOST 1048576: true; the input reads as it did. -/
def fnTskWallUptoRow : OpenClaim := { program := "yteecakkojdhmaaagreat", sum := "4c804e9a3839dfc54b6a2e42279a16a40c03333f9dbeeb3cf25cdfa2e3b3b91c", func := "loop.example/freshet/laws.FnTskWall", spec := "fnTskWall", inPlace := ["slices.overlaps[loop.example/freshet/impl.OpRow]"], unfollowed := true, recurses := true, apart := false, narrowed := true }
def FnTskWallUptoSaid : Prop := fnTskWallUptoRow.holds Tryz.pinned (OpenSpec.upto fnTskWallSpec)

/-- 'laws.FnFloStays', WHERE WHAT IT READS IS OF BULK AT MOST 1048576: true; the input reads as it did. -/
def fnFloStaysUptoRow : OpenClaim := { program := "yteecakkojdhmaaagreat", sum := "4c804e9a3839dfc54b6a2e42279a16a40c03333f9dbeeb3cf25cdfa2e3b3b91c", func := "loop.example/freshet/laws.FnFloStays", spec := "fnFloStays", inPlace := ["slices.overlaps[loop.example/freshet/impl.OpRow]"], unfollowed := true, recurses := true, apart := false, narrowed := true }
def FnFloStaysUptoSaid : Prop := fnFloStaysUptoRow.holds Tryz.pinned (OpenSpec.upto fnFloStaysSpec)

/-- 'laws.FnFloRoom', WHERE WHAT IT READS IS OF BULK AT MOST 1048576: true; the input reads as it did. -/
def fnFloRoomUptoRow : OpenClaim := { program := "yteecakkojdhmaaagreat", sum := "4c804e9a3839dfc54b6a2e42279a16a40c03333f9dbeeb3cf25cdfa2e3b3b91c", func := "loop.example/freshet/laws.FnFloRoom", spec := "fnFloRoom", inPlace := ["slices.overlaps[loop.example/freshet/impl.OpRow]"], unfollowed := true, recurses := true, apart := false, narrowed := true }
def FnFloRoomUptoSaid : Prop := fnFloRoomUptoRow.holds Tryz.pinned (OpenSpec.upto fnFloRoomSpec)

/-- 'laws.FnFloSafe', WHERE WHAT IT READS IS OF BULK AT MOST 1048576: true; the input reads as it did. -/
def fnFloSafeUptoRow : OpenClaim := { program := "yteecakkojdhmaaagreat", sum := "4c804e9a3839dfc54b6a2e42279a16a40c03333f9dbeeb3cf25cdfa2e3b3b91c", func := "loop.example/freshet/laws.FnFloSafe", spec := "fnFloSafe", inPlace := ["slices.overlaps[loop.example/freshet/impl.OpRow]"], unfollowed := true, recurses := true, apart := false, narrowed := true }
def FnFloSafeUptoSaid : Prop := fnFloSafeUptoRow.holds Tryz.pinned (OpenSpec.upto fnFloSafeSpec)

/-- 'laws.FnFloSnap', WHERE WHAT IT READS IS OF BULK AT MOST 1048576: true; the input reads as it did. -/
def fnFloSnapUptoRow : OpenClaim := { program := "yteecakkojdhmaaagreat", sum := "4c804e9a3839dfc54b6a2e42279a16a40c03333f9dbeeb3cf25cdfa2e3b3b91c", func := "loop.example/freshet/laws.FnFloSnap", spec := "fnFloSnap", inPlace := ["slices.overlaps[loop.example/freshet/impl.OpRow]"], unfollowed := true, recurses := true, apart := false, narrowed := true }
def FnFloSnapUptoSaid : Prop := fnFloSnapUptoRow.holds Tryz.pinned (OpenSpec.upto fnFloSnapSpec)

/-- 'laws.FnFloTasks', WHERE WHAT IT READS IS OF BULK AT MOST 1048576: true; the input reads as it did. -/
def fnFloTasksUptoRow : OpenClaim := { program := "yteecakkojdhmaaagreat", sum := "4c804e9a3839dfc54b6a2e42279a16a40c03333f9dbeeb3cf25cdfa2e3b3b91c", func := "loop.example/freshet/laws.FnFloTasks", spec := "fnFloTasks", inPlace := ["slices.overlaps[loop.example/freshet/impl.OpRow]"], unfollowed := true, recurses := true, apart := false, narrowed := true }
def FnFloTasksUptoSaid : Prop := fnFloTasksUptoRow.holds Tryz.pinned (OpenSpec.upto fnFloTasksSpec)

end Rows
end Go.Proofs.YteecakkojdhmaaaGreat
