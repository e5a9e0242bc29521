/-
  NARROWER THAN 'FOR EVERY INPUT', by the rows' own cells (each row's printed sentence says how): FsckWhole: laid · FsckGrown: laid · FsckFinds: laid · FsckLoads: laid.
  DERIVED. THE GIVEN ROWS OF THIS SEAT. 4 by the template 'for every input the law returns true; each argument reads behind the call as it read before'; 0 by the template 'total and deterministic' (their statements: YtjbkgbilbnccnaaGreatDoorTotals.lean).
  GIVEN WITH THE SEED: the statements are not yours to turn. If you find one false, say at which input.
  Laid BY PROGRAM, IN A SANDBOX (cutbox-rows.mjs): the forced cells as the released guide's own fill.sh prints them over the translation 3d0021347810dba1… (all of the seat's roots in one cut). By AI agents, Wed Nov 11 2026. No macro, syntax, notation, axiom, sorry.
-/
import Derived.Test.YtjbkgbilbnccnaaGreatDoorChecked
import GoSem.Claim
import GoSem.ClaimJoined
import GoSem.ClaimMapViews
import Derived.JoinedTies
import Derived.KernelRfl
namespace Go.Proofs.YtjbkgbilbnccnaaGreatDoor
/- THE CELL 'sum', in the pinned program and in every row, IS THE sha256 OF THE DUMP (.gsa) THAT YtjbkgbilbnccnaaGreatDoorProg.lean LOADS. Nothing in Lean hashes anything: it is a label: what it is worth is what the hold of that sum in a sandbox is worth. -/
noncomputable def Tryz.pinned : Pinned := { name := "ytjbkgbilbnccnaagreatdoor", sum := "3d0021347810dba1917b8ef3df66b586f9f8998c19d544a9991954dff7a3c7dc", checked := Tryz.checked }
namespace Rows
def none {H : Type} : Left H := { results := [], args := [] }

/- WHAT THE LISTED PACKAGE-LEVEL VARIABLES READ AS WHEN THE CALL BEGINS. Each datum BY PROGRAM (the guide's laid-datum.mjs) off the statement by which the dump's own 'gosem.cut.vars' lays the variable. In a bare row this is a premise. The card (YtjbkgbilbnccnaaGreatDoorCards.lean) ties it to the program's text. -/
def laid_coppice_walk_everything {H : Type} : DataW H := .agg [.nil, .nil, .lit (.bool true)]
def laid_errors_errorType {H : Type} : DataW H := .iface "internal/reflectlite.rtype" (.agg [.ptr (.lit (.string [101, 114, 114, 111, 114]))])

/-- 'coppicelaw22.FsckWhole': WHATEVER THE INPUT: true; the input reads as it did. -/
def fsckWholeSpec : ChangeSpec := { name := "fsckWhole", fn := fun _ => fun
  | [d] => { results := [.lit (.bool true)], args := [d] }
  | _ => none }
def fsckWholeRow : OpenClaim := { program := "ytjbkgbilbnccnaagreatdoor", sum := "3d0021347810dba1917b8ef3df66b586f9f8998c19d544a9991954dff7a3c7dc", func := "coppice/coppicelaw22.FsckWhole", spec := "fsckWhole", inPlace := ["internal/bytealg.Compare"], unfollowed := true, recurses := true, named := ["coppice/walk.everything"], plainKeys := false, apart := false, laid := [("coppice/walk.everything", laid_coppice_walk_everything)] }
def FsckWholeSaid : Prop := fsckWholeRow.holds Tryz.pinned (OpenSpec.ofChange fsckWholeSpec)

/-- ITS FALSE NEIGHBOUR: 'it returns false'. Refute it at one input. -/
def fsckWholeWrong : ChangeSpec := { name := "fsckWhole", fn := fun _ => fun
  | [d] => { results := [.lit (.bool false)], args := [d] }
  | _ => none }
def FsckWholeWrongFalsely : Prop := fsckWholeRow.holds Tryz.pinned (OpenSpec.ofChange fsckWholeWrong)

/-- 'coppicelaw22.FsckGrown': WHATEVER THE INPUT: true; the input reads as it did. -/
def fsckGrownSpec : ChangeSpec := { name := "fsckGrown", fn := fun _ => fun
  | [d1, d2, d3] => { results := [.lit (.bool true)], args := [d1, d2, d3] }
  | _ => none }
def fsckGrownRow : OpenClaim := { program := "ytjbkgbilbnccnaagreatdoor", sum := "3d0021347810dba1917b8ef3df66b586f9f8998c19d544a9991954dff7a3c7dc", func := "coppice/coppicelaw22.FsckGrown", spec := "fsckGrown", inPlace := ["internal/bytealg.Compare"], unfollowed := true, recurses := true, named := ["coppice/walk.everything"], plainKeys := false, apart := false, laid := [("coppice/walk.everything", laid_coppice_walk_everything)] }
def FsckGrownSaid : Prop := fsckGrownRow.holds Tryz.pinned (OpenSpec.ofChange fsckGrownSpec)

/-- ITS FALSE NEIGHBOUR: 'it returns false'. Refute it at one input. -/
def fsckGrownWrong : ChangeSpec := { name := "fsckGrown", fn := fun _ => fun
  | [d1, d2, d3] => { results := [.lit (.bool false)], args := [d1, d2, d3] }
  | _ => none }
def FsckGrownWrongFalsely : Prop := fsckGrownRow.holds Tryz.pinned (OpenSpec.ofChange fsckGrownWrong)

/-- 'coppicelaw22.FsckFinds': WHATEVER THE INPUT: true; the input reads as it did. -/
def fsckFindsSpec : ChangeSpec := { name := "fsckFinds", fn := fun _ => fun
  | [d1, d2, d3] => { results := [.lit (.bool true)], args := [d1, d2, d3] }
  | _ => none }
def fsckFindsRow : OpenClaim := { program := "ytjbkgbilbnccnaagreatdoor", sum := "3d0021347810dba1917b8ef3df66b586f9f8998c19d544a9991954dff7a3c7dc", func := "coppice/coppicelaw22.FsckFinds", spec := "fsckFinds", inPlace := ["internal/bytealg.Compare", "internal/reflectlite.ValueOf", "(internal/reflectlite.Value).Type", "(internal/reflectlite.Value).IsNil", "internal/reflectlite.TypeOf", "(internal/reflectlite.Value).Elem", "(internal/reflectlite.Value).Set"], unfollowed := true, recurses := true, named := ["coppice/walk.everything", "errors.errorType"], plainKeys := false, apart := false, laid := [("errors.errorType", laid_errors_errorType), ("coppice/walk.everything", laid_coppice_walk_everything)] }
def FsckFindsSaid : Prop := fsckFindsRow.holds Tryz.pinned (OpenSpec.ofChange fsckFindsSpec)

/-- ITS FALSE NEIGHBOUR: 'it returns false'. Refute it at one input. -/
def fsckFindsWrong : ChangeSpec := { name := "fsckFinds", fn := fun _ => fun
  | [d1, d2, d3] => { results := [.lit (.bool false)], args := [d1, d2, d3] }
  | _ => none }
def FsckFindsWrongFalsely : Prop := fsckFindsRow.holds Tryz.pinned (OpenSpec.ofChange fsckFindsWrong)

/-- 'coppicelaw22.FsckLoads': WHATEVER THE INPUT: true; the input reads as it did. -/
def fsckLoadsSpec : ChangeSpec := { name := "fsckLoads", fn := fun _ => fun
  | [d1, d2] => { results := [.lit (.bool true)], args := [d1, d2] }
  | _ => none }
def fsckLoadsRow : OpenClaim := { program := "ytjbkgbilbnccnaagreatdoor", sum := "3d0021347810dba1917b8ef3df66b586f9f8998c19d544a9991954dff7a3c7dc", func := "coppice/coppicelaw22.FsckLoads", spec := "fsckLoads", inPlace := ["internal/bytealg.Compare", "internal/reflectlite.ValueOf", "(internal/reflectlite.Value).Type", "(internal/reflectlite.Value).IsNil", "internal/reflectlite.TypeOf", "(internal/reflectlite.Value).Elem", "(internal/reflectlite.Value).Set"], unfollowed := true, recurses := true, named := ["coppice/walk.everything", "errors.errorType"], plainKeys := false, apart := false, laid := [("errors.errorType", laid_errors_errorType), ("coppice/walk.everything", laid_coppice_walk_everything)] }
def FsckLoadsSaid : Prop := fsckLoadsRow.holds Tryz.pinned (OpenSpec.ofChange fsckLoadsSpec)

/-- ITS FALSE NEIGHBOUR: 'it returns false'. Refute it at one input. -/
def fsckLoadsWrong : ChangeSpec := { name := "fsckLoads", fn := fun _ => fun
  | [d1, d2] => { results := [.lit (.bool false)], args := [d1, d2] }
  | _ => none }
def FsckLoadsWrongFalsely : Prop := fsckLoadsRow.holds Tryz.pinned (OpenSpec.ofChange fsckLoadsWrong)

/- THE SECOND FORM. 'bulk': how many values and letters a reading holds, each counted each time it is reached (what is shared counts as often as it is met; a slice's spare places count too). A statement '..UptoSaid' is the law's where the arguments, and the package variables that the reading takes, are together of bulk at most 1048576: NARROWER than '..Said'. Prove '..Said' where nothing that the law and all that it calls make is longer than what came in: it says more and counts as full. Else prove '..UptoSaid'. A law counts once. -/
mutual
def uptoBulk {H : Type} : DataW H → Nat
  | .lit (.string bytes) => bytes.length + 1
  | .lit _ => 1
  | .nil => 1
  | .ptr d => uptoBulk d + 1
  | .slice elems spare => uptoBulkAll elems + uptoBulkAll spare + 1
  | .agg parts => uptoBulkAll parts + 1
  | .iface _ d => uptoBulk d + 1
  | .map entries => uptoBulkEntries entries + 1
  | .held _ => 1
def uptoBulkAll {H : Type} : List (DataW H) → Nat
  | [] => 0
  | d :: r => uptoBulk d + uptoBulkAll r
def uptoBulkEntries {H : Type} : List (Lit × DataW H) → Nat
  | [] => 0
  | x :: r => uptoBulkEntry x + uptoBulkEntries r
def uptoBulkEntry {H : Type} : Lit × DataW H → Nat
  | (.string bytes, d) => bytes.length + uptoBulk d + 1
  | (_, d) => uptoBulk d + 1
 end
def uptoSmall : (H : Type) → List (DataW H) → Bool := fun _ ds => decide (uptoBulkAll ds ≤ 1048576)
def OpenSpec.upto (s : _root_.Go.ChangeSpec) : _root_.Go.OpenSpec := { _root_.Go.OpenSpec.ofChange s with cond := some uptoSmall }

/-- 'coppicelaw22.FsckWhole', WHERE WHAT IT READS IS OF BULK AT MOST 1048576: true; the input reads as it did. -/
def fsckWholeUptoRow : OpenClaim := { program := "ytjbkgbilbnccnaagreatdoor", sum := "3d0021347810dba1917b8ef3df66b586f9f8998c19d544a9991954dff7a3c7dc", func := "coppice/coppicelaw22.FsckWhole", spec := "fsckWhole", inPlace := ["internal/bytealg.Compare"], unfollowed := true, recurses := true, named := ["coppice/walk.everything"], plainKeys := false, apart := false, laid := [("coppice/walk.everything", laid_coppice_walk_everything)], narrowed := true }
def FsckWholeUptoSaid : Prop := fsckWholeUptoRow.holds Tryz.pinned (OpenSpec.upto fsckWholeSpec)

/-- 'coppicelaw22.FsckGrown', WHERE WHAT IT READS IS OF BULK AT MOST 1048576: true; the input reads as it did. -/
def fsckGrownUptoRow : OpenClaim := { program := "ytjbkgbilbnccnaagreatdoor", sum := "3d0021347810dba1917b8ef3df66b586f9f8998c19d544a9991954dff7a3c7dc", func := "coppice/coppicelaw22.FsckGrown", spec := "fsckGrown", inPlace := ["internal/bytealg.Compare"], unfollowed := true, recurses := true, named := ["coppice/walk.everything"], plainKeys := false, apart := false, laid := [("coppice/walk.everything", laid_coppice_walk_everything)], narrowed := true }
def FsckGrownUptoSaid : Prop := fsckGrownUptoRow.holds Tryz.pinned (OpenSpec.upto fsckGrownSpec)

/-- 'coppicelaw22.FsckFinds', WHERE WHAT IT READS IS OF BULK AT MOST 1048576: true; the input reads as it did. -/
def fsckFindsUptoRow : OpenClaim := { program := "ytjbkgbilbnccnaagreatdoor", sum := "3d0021347810dba1917b8ef3df66b586f9f8998c19d544a9991954dff7a3c7dc", func := "coppice/coppicelaw22.FsckFinds", spec := "fsckFinds", inPlace := ["internal/bytealg.Compare", "internal/reflectlite.ValueOf", "(internal/reflectlite.Value).Type", "(internal/reflectlite.Value).IsNil", "internal/reflectlite.TypeOf", "(internal/reflectlite.Value).Elem", "(internal/reflectlite.Value).Set"], unfollowed := true, recurses := true, named := ["coppice/walk.everything", "errors.errorType"], plainKeys := false, apart := false, laid := [("errors.errorType", laid_errors_errorType), ("coppice/walk.everything", laid_coppice_walk_everything)], narrowed := true }
def FsckFindsUptoSaid : Prop := fsckFindsUptoRow.holds Tryz.pinned (OpenSpec.upto fsckFindsSpec)

/-- 'coppicelaw22.FsckLoads', WHERE WHAT IT READS IS OF BULK AT MOST 1048576: true; the input reads as it did. -/
def fsckLoadsUptoRow : OpenClaim := { program := "ytjbkgbilbnccnaagreatdoor", sum := "3d0021347810dba1917b8ef3df66b586f9f8998c19d544a9991954dff7a3c7dc", func := "coppice/coppicelaw22.FsckLoads", spec := "fsckLoads", inPlace := ["internal/bytealg.Compare", "internal/reflectlite.ValueOf", "(internal/reflectlite.Value).Type", "(internal/reflectlite.Value).IsNil", "internal/reflectlite.TypeOf", "(internal/reflectlite.Value).Elem", "(internal/reflectlite.Value).Set"], unfollowed := true, recurses := true, named := ["coppice/walk.everything", "errors.errorType"], plainKeys := false, apart := false, laid := [("errors.errorType", laid_errors_errorType), ("coppice/walk.everything", laid_coppice_walk_everything)], narrowed := true }
def FsckLoadsUptoSaid : Prop := fsckLoadsUptoRow.holds Tryz.pinned (OpenSpec.upto fsckLoadsSpec)

end Rows
end Go.Proofs.YtjbkgbilbnccnaaGreatDoor
