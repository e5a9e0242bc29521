/-
  No cell of these rows narrows 'for every input' (looked for: loops, veiled, ifaces, maps, wideKeys, modest, calm, conditions, laid).
  DERIVED. THE GIVEN ROWS OF THIS SEAT. 12 by the template 'for every input the law returns true; each argument reads behind the call as it read before'; 0 by the template 'total and deterministic' (their statements: YtekilljcoplacaaTotals.lean).
  GIVEN WITH THE SEED: the statements are not yours to turn. If you find one false, say at which input.
  Laid BY PROGRAM, IN A SANDBOX (cutbox-rows.mjs): the forced cells as the released guide's own fill.sh prints them over the translation 15554e9b9ea4edb9… (all of the seat's roots in one cut). By AI agents, Wed Nov 11 2026. No macro, syntax, notation, axiom, sorry.
-/
import Derived.Test.YtekilljcoplacaaChecked
import GoSem.Claim
import GoSem.ClaimJoined
import GoSem.ClaimMapViews
import Derived.JoinedTies
import Derived.KernelRfl
namespace Go.Proofs.Ytekilljcoplacaa
/- THE CELL 'sum', in the pinned program and in every row, IS THE sha256 OF THE DUMP (.gsa) THAT YtekilljcoplacaaProg.lean LOADS. Nothing in Lean hashes anything: it is a label: what it is worth is what the hold of that sum in a sandbox is worth. -/
noncomputable def Try.pinned : Pinned := { name := "ytekilljcoplacaa", sum := "15554e9b9ea4edb9671e435f0c936c2e0eeaf8663d6dc058f7a5c5ac2888a7c4", checked := Try.checked }
namespace Rows
def none {H : Type} : Left H := { results := [], args := [] }

/-- 'coppicelaw06.DiskNames': WHATEVER THE INPUT: true; the input reads as it did. -/
def diskNamesSpec : ChangeSpec := { name := "diskNames", fn := fun _ => fun
  | [] => { results := [.lit (.bool true)], args := [] }
  | _ => none }
def diskNamesRow : OpenClaim := { program := "ytekilljcoplacaa", sum := "15554e9b9ea4edb9671e435f0c936c2e0eeaf8663d6dc058f7a5c5ac2888a7c4", func := "coppice/coppicelaw06.DiskNames", spec := "diskNames", apart := false }
def DiskNamesSaid : Prop := diskNamesRow.holds Try.pinned (OpenSpec.ofChange diskNamesSpec)

/-- ITS FALSE NEIGHBOUR: 'it returns false'. Refute it at one input. -/
def diskNamesWrong : ChangeSpec := { name := "diskNames", fn := fun _ => fun
  | [] => { results := [.lit (.bool false)], args := [] }
  | _ => none }
def DiskNamesWrongFalsely : Prop := diskNamesRow.holds Try.pinned (OpenSpec.ofChange diskNamesWrong)

/-- 'coppicelaw24.ForestNames': WHATEVER THE INPUT: true; the input reads as it did. -/
def forestNamesSpec : ChangeSpec := { name := "forestNames", fn := fun _ => fun
  | [] => { results := [.lit (.bool true)], args := [] }
  | _ => none }
def forestNamesRow : OpenClaim := { program := "ytekilljcoplacaa", sum := "15554e9b9ea4edb9671e435f0c936c2e0eeaf8663d6dc058f7a5c5ac2888a7c4", func := "coppice/coppicelaw24.ForestNames", spec := "forestNames", apart := false }
def ForestNamesSaid : Prop := forestNamesRow.holds Try.pinned (OpenSpec.ofChange forestNamesSpec)

/-- ITS FALSE NEIGHBOUR: 'it returns false'. Refute it at one input. -/
def forestNamesWrong : ChangeSpec := { name := "forestNames", fn := fun _ => fun
  | [] => { results := [.lit (.bool false)], args := [] }
  | _ => none }
def ForestNamesWrongFalsely : Prop := forestNamesRow.holds Try.pinned (OpenSpec.ofChange forestNamesWrong)

/-- 'coppicelaw30.MirrorNames': WHATEVER THE INPUT: true; the input reads as it did. -/
def mirrorNamesSpec : ChangeSpec := { name := "mirrorNames", fn := fun _ => fun
  | [] => { results := [.lit (.bool true)], args := [] }
  | _ => none }
def mirrorNamesRow : OpenClaim := { program := "ytekilljcoplacaa", sum := "15554e9b9ea4edb9671e435f0c936c2e0eeaf8663d6dc058f7a5c5ac2888a7c4", func := "coppice/coppicelaw30.MirrorNames", spec := "mirrorNames", apart := false }
def MirrorNamesSaid : Prop := mirrorNamesRow.holds Try.pinned (OpenSpec.ofChange mirrorNamesSpec)

/-- ITS FALSE NEIGHBOUR: 'it returns false'. Refute it at one input. -/
def mirrorNamesWrong : ChangeSpec := { name := "mirrorNames", fn := fun _ => fun
  | [] => { results := [.lit (.bool false)], args := [] }
  | _ => none }
def MirrorNamesWrongFalsely : Prop := mirrorNamesRow.holds Try.pinned (OpenSpec.ofChange mirrorNamesWrong)

/-- 'coppicelaw32.DeskNames': WHATEVER THE INPUT: true; the input reads as it did. -/
def deskNamesSpec : ChangeSpec := { name := "deskNames", fn := fun _ => fun
  | [] => { results := [.lit (.bool true)], args := [] }
  | _ => none }
def deskNamesRow : OpenClaim := { program := "ytekilljcoplacaa", sum := "15554e9b9ea4edb9671e435f0c936c2e0eeaf8663d6dc058f7a5c5ac2888a7c4", func := "coppice/coppicelaw32.DeskNames", spec := "deskNames", apart := false }
def DeskNamesSaid : Prop := deskNamesRow.holds Try.pinned (OpenSpec.ofChange deskNamesSpec)

/-- ITS FALSE NEIGHBOUR: 'it returns false'. Refute it at one input. -/
def deskNamesWrong : ChangeSpec := { name := "deskNames", fn := fun _ => fun
  | [] => { results := [.lit (.bool false)], args := [] }
  | _ => none }
def DeskNamesWrongFalsely : Prop := deskNamesRow.holds Try.pinned (OpenSpec.ofChange deskNamesWrong)

/-- 'coppicelaw27.TxnNames': WHATEVER THE INPUT: true; the input reads as it did. -/
def txnNamesSpec : ChangeSpec := { name := "txnNames", fn := fun _ => fun
  | [] => { results := [.lit (.bool true)], args := [] }
  | _ => none }
def txnNamesRow : OpenClaim := { program := "ytekilljcoplacaa", sum := "15554e9b9ea4edb9671e435f0c936c2e0eeaf8663d6dc058f7a5c5ac2888a7c4", func := "coppice/coppicelaw27.TxnNames", spec := "txnNames", apart := false }
def TxnNamesSaid : Prop := txnNamesRow.holds Try.pinned (OpenSpec.ofChange txnNamesSpec)

/-- ITS FALSE NEIGHBOUR: 'it returns false'. Refute it at one input. -/
def txnNamesWrong : ChangeSpec := { name := "txnNames", fn := fun _ => fun
  | [] => { results := [.lit (.bool false)], args := [] }
  | _ => none }
def TxnNamesWrongFalsely : Prop := txnNamesRow.holds Try.pinned (OpenSpec.ofChange txnNamesWrong)

/-- 'coppicelaw06.DiskTaken': WHATEVER THE INPUT: true; the input reads as it did. -/
def diskTakenSpec : ChangeSpec := { name := "diskTaken", fn := fun _ => fun
  | [d] => { results := [.lit (.bool true)], args := [d] }
  | _ => none }
def diskTakenRow : OpenClaim := { program := "ytekilljcoplacaa", sum := "15554e9b9ea4edb9671e435f0c936c2e0eeaf8663d6dc058f7a5c5ac2888a7c4", func := "coppice/coppicelaw06.DiskTaken", spec := "diskTaken", unfollowed := true, recurses := true, apart := false }
def DiskTakenSaid : Prop := diskTakenRow.holds Try.pinned (OpenSpec.ofChange diskTakenSpec)

/-- ITS FALSE NEIGHBOUR: 'it returns false'. Refute it at one input. -/
def diskTakenWrong : ChangeSpec := { name := "diskTaken", fn := fun _ => fun
  | [d] => { results := [.lit (.bool false)], args := [d] }
  | _ => none }
def DiskTakenWrongFalsely : Prop := diskTakenRow.holds Try.pinned (OpenSpec.ofChange diskTakenWrong)

/-- 'coppicelaw06.DiskAlarm': WHATEVER THE INPUT: true; the input reads as it did. -/
def diskAlarmSpec : ChangeSpec := { name := "diskAlarm", fn := fun _ => fun
  | [d1, d2, d3] => { results := [.lit (.bool true)], args := [d1, d2, d3] }
  | _ => none }
def diskAlarmRow : OpenClaim := { program := "ytekilljcoplacaa", sum := "15554e9b9ea4edb9671e435f0c936c2e0eeaf8663d6dc058f7a5c5ac2888a7c4", func := "coppice/coppicelaw06.DiskAlarm", spec := "diskAlarm", unfollowed := true, recurses := true, apart := false }
def DiskAlarmSaid : Prop := diskAlarmRow.holds Try.pinned (OpenSpec.ofChange diskAlarmSpec)

/-- ITS FALSE NEIGHBOUR: 'it returns false'. Refute it at one input. -/
def diskAlarmWrong : ChangeSpec := { name := "diskAlarm", fn := fun _ => fun
  | [d1, d2, d3] => { results := [.lit (.bool false)], args := [d1, d2, d3] }
  | _ => none }
def DiskAlarmWrongFalsely : Prop := diskAlarmRow.holds Try.pinned (OpenSpec.ofChange diskAlarmWrong)

/-- 'coppicelaw06.DiskMakes': WHATEVER THE INPUT: true; the input reads as it did. -/
def diskMakesSpec : ChangeSpec := { name := "diskMakes", fn := fun _ => fun
  | [d] => { results := [.lit (.bool true)], args := [d] }
  | _ => none }
def diskMakesRow : OpenClaim := { program := "ytekilljcoplacaa", sum := "15554e9b9ea4edb9671e435f0c936c2e0eeaf8663d6dc058f7a5c5ac2888a7c4", func := "coppice/coppicelaw06.DiskMakes", spec := "diskMakes", unfollowed := true, recurses := true, apart := false }
def DiskMakesSaid : Prop := diskMakesRow.holds Try.pinned (OpenSpec.ofChange diskMakesSpec)

/-- ITS FALSE NEIGHBOUR: 'it returns false'. Refute it at one input. -/
def diskMakesWrong : ChangeSpec := { name := "diskMakes", fn := fun _ => fun
  | [d] => { results := [.lit (.bool false)], args := [d] }
  | _ => none }
def DiskMakesWrongFalsely : Prop := diskMakesRow.holds Try.pinned (OpenSpec.ofChange diskMakesWrong)

/-- 'coppicelaw06.DiskSynced': WHATEVER THE INPUT: true; the input reads as it did. -/
def diskSyncedSpec : ChangeSpec := { name := "diskSynced", fn := fun _ => fun
  | [d1, d2, d3] => { results := [.lit (.bool true)], args := [d1, d2, d3] }
  | _ => none }
def diskSyncedRow : OpenClaim := { program := "ytekilljcoplacaa", sum := "15554e9b9ea4edb9671e435f0c936c2e0eeaf8663d6dc058f7a5c5ac2888a7c4", func := "coppice/coppicelaw06.DiskSynced", spec := "diskSynced", unfollowed := true, recurses := true, apart := false }
def DiskSyncedSaid : Prop := diskSyncedRow.holds Try.pinned (OpenSpec.ofChange diskSyncedSpec)

/-- ITS FALSE NEIGHBOUR: 'it returns false'. Refute it at one input. -/
def diskSyncedWrong : ChangeSpec := { name := "diskSynced", fn := fun _ => fun
  | [d1, d2, d3] => { results := [.lit (.bool false)], args := [d1, d2, d3] }
  | _ => none }
def DiskSyncedWrongFalsely : Prop := diskSyncedRow.holds Try.pinned (OpenSpec.ofChange diskSyncedWrong)

/-- 'coppicelaw06.DiskKeeps': WHATEVER THE INPUT: true; the input reads as it did. -/
def diskKeepsSpec : ChangeSpec := { name := "diskKeeps", fn := fun _ => fun
  | [d1, d2, d3] => { results := [.lit (.bool true)], args := [d1, d2, d3] }
  | _ => none }
def diskKeepsRow : OpenClaim := { program := "ytekilljcoplacaa", sum := "15554e9b9ea4edb9671e435f0c936c2e0eeaf8663d6dc058f7a5c5ac2888a7c4", func := "coppice/coppicelaw06.DiskKeeps", spec := "diskKeeps", unfollowed := true, recurses := true, apart := false }
def DiskKeepsSaid : Prop := diskKeepsRow.holds Try.pinned (OpenSpec.ofChange diskKeepsSpec)

/-- ITS FALSE NEIGHBOUR: 'it returns false'. Refute it at one input. -/
def diskKeepsWrong : ChangeSpec := { name := "diskKeeps", fn := fun _ => fun
  | [d1, d2, d3] => { results := [.lit (.bool false)], args := [d1, d2, d3] }
  | _ => none }
def DiskKeepsWrongFalsely : Prop := diskKeepsRow.holds Try.pinned (OpenSpec.ofChange diskKeepsWrong)

/-- 'coppicelaw06.DiskAgain': WHATEVER THE INPUT: true; the input reads as it did. -/
def diskAgainSpec : ChangeSpec := { name := "diskAgain", fn := fun _ => fun
  | [d1, d2, d3] => { results := [.lit (.bool true)], args := [d1, d2, d3] }
  | _ => none }
def diskAgainRow : OpenClaim := { program := "ytekilljcoplacaa", sum := "15554e9b9ea4edb9671e435f0c936c2e0eeaf8663d6dc058f7a5c5ac2888a7c4", func := "coppice/coppicelaw06.DiskAgain", spec := "diskAgain", unfollowed := true, recurses := true, apart := false }
def DiskAgainSaid : Prop := diskAgainRow.holds Try.pinned (OpenSpec.ofChange diskAgainSpec)

/-- ITS FALSE NEIGHBOUR: 'it returns false'. Refute it at one input. -/
def diskAgainWrong : ChangeSpec := { name := "diskAgain", fn := fun _ => fun
  | [d1, d2, d3] => { results := [.lit (.bool false)], args := [d1, d2, d3] }
  | _ => none }
def DiskAgainWrongFalsely : Prop := diskAgainRow.holds Try.pinned (OpenSpec.ofChange diskAgainWrong)

/-- 'coppicelaw06.DiskFresh': WHATEVER THE INPUT: true; the input reads as it did. -/
def diskFreshSpec : ChangeSpec := { name := "diskFresh", fn := fun _ => fun
  | [d1, d2] => { results := [.lit (.bool true)], args := [d1, d2] }
  | _ => none }
def diskFreshRow : OpenClaim := { program := "ytekilljcoplacaa", sum := "15554e9b9ea4edb9671e435f0c936c2e0eeaf8663d6dc058f7a5c5ac2888a7c4", func := "coppice/coppicelaw06.DiskFresh", spec := "diskFresh", unfollowed := true, recurses := true, apart := false }
def DiskFreshSaid : Prop := diskFreshRow.holds Try.pinned (OpenSpec.ofChange diskFreshSpec)

/-- ITS FALSE NEIGHBOUR: 'it returns false'. Refute it at one input. -/
def diskFreshWrong : ChangeSpec := { name := "diskFresh", fn := fun _ => fun
  | [d1, d2] => { results := [.lit (.bool false)], args := [d1, d2] }
  | _ => none }
def DiskFreshWrongFalsely : Prop := diskFreshRow.holds Try.pinned (OpenSpec.ofChange diskFreshWrong)

/- THE SECOND FORM. 'bulk': how many values and letters a reading holds, each counted each time it is reached (what is shared counts as often as it is met; a slice's spare places count too). A statement '..UptoSaid' is the law's where the arguments, and the package variables that the reading takes, are together of bulk at most 1048576: NARROWER than '..Said'. Prove '..Said' where nothing that the law and all that it calls make is longer than what came in: it says more and counts as full. Else prove '..UptoSaid'. A law counts once. -/
mutual
def uptoBulk {H : Type} : DataW H → Nat
  | .lit (.string bytes) => bytes.length + 1
  | .lit _ => 1
  | .nil => 1
  | .ptr d => uptoBulk d + 1
  | .slice elems spare => uptoBulkAll elems + uptoBulkAll spare + 1
  | .agg parts => uptoBulkAll parts + 1
  | .iface _ d => uptoBulk d + 1
  | .map entries => uptoBulkEntries entries + 1
  | .held _ => 1
def uptoBulkAll {H : Type} : List (DataW H) → Nat
  | [] => 0
  | d :: r => uptoBulk d + uptoBulkAll r
def uptoBulkEntries {H : Type} : List (Lit × DataW H) → Nat
  | [] => 0
  | x :: r => uptoBulkEntry x + uptoBulkEntries r
def uptoBulkEntry {H : Type} : Lit × DataW H → Nat
  | (.string bytes, d) => bytes.length + uptoBulk d + 1
  | (_, d) => uptoBulk d + 1
 end
def uptoSmall : (H : Type) → List (DataW H) → Bool := fun _ ds => decide (uptoBulkAll ds ≤ 1048576)
def OpenSpec.upto (s : _root_.Go.ChangeSpec) : _root_.Go.OpenSpec := { _root_.Go.OpenSpec.ofChange s with cond := some uptoSmall }

/-- 'coppicelaw06.DiskNames', WHERE WHAT IT READS IS OF BULK AT MOST 1048576: true; the input reads as it did. -/
def diskNamesUptoRow : OpenClaim := { program := "ytekilljcoplacaa", sum := "15554e9b9ea4edb9671e435f0c936c2e0eeaf8663d6dc058f7a5c5ac2888a7c4", func := "coppice/coppicelaw06.DiskNames", spec := "diskNames", apart := false, narrowed := true }
def DiskNamesUptoSaid : Prop := diskNamesUptoRow.holds Try.pinned (OpenSpec.upto diskNamesSpec)

/-- 'coppicelaw24.ForestNames', WHERE WHAT IT READS IS OF BULK AT MOST 1048576: true; the input reads as it did. -/
def forestNamesUptoRow : OpenClaim := { program := "ytekilljcoplacaa", sum := "15554e9b9ea4edb9671e435f0c936c2e0eeaf8663d6dc058f7a5c5ac2888a7c4", func := "coppice/coppicelaw24.ForestNames", spec := "forestNames", apart := false, narrowed := true }
def ForestNamesUptoSaid : Prop := forestNamesUptoRow.holds Try.pinned (OpenSpec.upto forestNamesSpec)

/-- 'coppicelaw30.MirrorNames', WHERE WHAT IT READS IS OF BULK AT MOST 1048576: true; the input reads as it did. -/
def mirrorNamesUptoRow : OpenClaim := { program := "ytekilljcoplacaa", sum := "15554e9b9ea4edb9671e435f0c936c2e0eeaf8663d6dc058f7a5c5ac2888a7c4", func := "coppice/coppicelaw30.MirrorNames", spec := "mirrorNames", apart := false, narrowed := true }
def MirrorNamesUptoSaid : Prop := mirrorNamesUptoRow.holds Try.pinned (OpenSpec.upto mirrorNamesSpec)

/-- 'coppicelaw32.DeskNames', WHERE WHAT IT READS IS OF BULK AT MOST 1048576: true; the input reads as it did. -/
def deskNamesUptoRow : OpenClaim := { program := "ytekilljcoplacaa", sum := "15554e9b9ea4edb9671e435f0c936c2e0eeaf8663d6dc058f7a5c5ac2888a7c4", func := "coppice/coppicelaw32.DeskNames", spec := "deskNames", apart := false, narrowed := true }
def DeskNamesUptoSaid : Prop := deskNamesUptoRow.holds Try.pinned (OpenSpec.upto deskNamesSpec)

/-- 'coppicelaw27.TxnNames', WHERE WHAT IT READS IS OF BULK AT MOST 1048576: true; the input reads as it did. -/
def txnNamesUptoRow : OpenClaim := { program := "ytekilljcoplacaa", sum := "15554e9b9ea4edb9671e435f0c936c2e0eeaf8663d6dc058f7a5c5ac2888a7c4", func := "coppice/coppicelaw27.TxnNames", spec := "txnNames", apart := false, narrowed := true }
def TxnNamesUptoSaid : Prop := txnNamesUptoRow.holds Try.pinned (OpenSpec.upto txnNamesSpec)

/-- 'coppicelaw06.DiskTaken', WHERE WHAT IT READS IS OF BULK AT MOST 1048576: true; the input reads as it did. -/
def diskTakenUptoRow : OpenClaim := { program := "ytekilljcoplacaa", sum := "15554e9b9ea4edb9671e435f0c936c2e0eeaf8663d6dc058f7a5c5ac2888a7c4", func := "coppice/coppicelaw06.DiskTaken", spec := "diskTaken", unfollowed := true, recurses := true, apart := false, narrowed := true }
def DiskTakenUptoSaid : Prop := diskTakenUptoRow.holds Try.pinned (OpenSpec.upto diskTakenSpec)

/-- 'coppicelaw06.DiskAlarm', WHERE WHAT IT READS IS OF BULK AT MOST 1048576: true; the input reads as it did. -/
def diskAlarmUptoRow : OpenClaim := { program := "ytekilljcoplacaa", sum := "15554e9b9ea4edb9671e435f0c936c2e0eeaf8663d6dc058f7a5c5ac2888a7c4", func := "coppice/coppicelaw06.DiskAlarm", spec := "diskAlarm", unfollowed := true, recurses := true, apart := false, narrowed := true }
def DiskAlarmUptoSaid : Prop := diskAlarmUptoRow.holds Try.pinned (OpenSpec.upto diskAlarmSpec)

/-- 'coppicelaw06.DiskMakes', WHERE WHAT IT READS IS OF BULK AT MOST 1048576: true; the input reads as it did. -/
def diskMakesUptoRow : OpenClaim := { program := "ytekilljcoplacaa", sum := "15554e9b9ea4edb9671e435f0c936c2e0eeaf8663d6dc058f7a5c5ac2888a7c4", func := "coppice/coppicelaw06.DiskMakes", spec := "diskMakes", unfollowed := true, recurses := true, apart := false, narrowed := true }
def DiskMakesUptoSaid : Prop := diskMakesUptoRow.holds Try.pinned (OpenSpec.upto diskMakesSpec)

/-- 'coppicelaw06.DiskSynced', WHERE WHAT IT READS IS OF BULK AT MOST 1048576: true; the input reads as it did. -/
def diskSyncedUptoRow : OpenClaim := { program := "ytekilljcoplacaa", sum := "15554e9b9ea4edb9671e435f0c936c2e0eeaf8663d6dc058f7a5c5ac2888a7c4", func := "coppice/coppicelaw06.DiskSynced", spec := "diskSynced", unfollowed := true, recurses := true, apart := false, narrowed := true }
def DiskSyncedUptoSaid : Prop := diskSyncedUptoRow.holds Try.pinned (OpenSpec.upto diskSyncedSpec)

/-- 'coppicelaw06.DiskKeeps', WHERE WHAT IT READS IS OF BULK AT MOST 1048576: true; the input reads as it did. -/
def diskKeepsUptoRow : OpenClaim := { program := "ytekilljcoplacaa", sum := "15554e9b9ea4edb9671e435f0c936c2e0eeaf8663d6dc058f7a5c5ac2888a7c4", func := "coppice/coppicelaw06.DiskKeeps", spec := "diskKeeps", unfollowed := true, recurses := true, apart := false, narrowed := true }
def DiskKeepsUptoSaid : Prop := diskKeepsUptoRow.holds Try.pinned (OpenSpec.upto diskKeepsSpec)

/-- 'coppicelaw06.DiskAgain', WHERE WHAT IT READS IS OF BULK AT MOST 1048576: true; the input reads as it did. -/
def diskAgainUptoRow : OpenClaim := { program := "ytekilljcoplacaa", sum := "15554e9b9ea4edb9671e435f0c936c2e0eeaf8663d6dc058f7a5c5ac2888a7c4", func := "coppice/coppicelaw06.DiskAgain", spec := "diskAgain", unfollowed := true, recurses := true, apart := false, narrowed := true }
def DiskAgainUptoSaid : Prop := diskAgainUptoRow.holds Try.pinned (OpenSpec.upto diskAgainSpec)

/-- 'coppicelaw06.DiskFresh', WHERE WHAT IT READS IS OF BULK AT MOST 1048576: true; the input reads as it did. -/
def diskFreshUptoRow : OpenClaim := { program := "ytekilljcoplacaa", sum := "15554e9b9ea4edb9671e435f0c936c2e0eeaf8663d6dc058f7a5c5ac2888a7c4", func := "coppice/coppicelaw06.DiskFresh", spec := "diskFresh", unfollowed := true, recurses := true, apart := false, narrowed := true }
def DiskFreshUptoSaid : Prop := diskFreshUptoRow.holds Try.pinned (OpenSpec.upto diskFreshSpec)

end Rows
end Go.Proofs.Ytekilljcoplacaa
