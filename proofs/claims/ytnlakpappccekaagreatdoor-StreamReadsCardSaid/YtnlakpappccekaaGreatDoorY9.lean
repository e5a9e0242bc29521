/- Part 9 of what the proof of this claim stands on: rules for walking the code, and what its functions answer; no conditions. -/
import Derived.Test.YtnlakpappccekaaGreatDoorY8
namespace Go.Proofs.YtnlakpappccekaaGreatDoor.X
set_option linter.unusedVariables false
set_option linter.unusedSimpArgs false
set_option maxRecDepth 20000
set_option maxHeartbeats 8000000
theorem rnL : true = runC Tryz.prog 1 (orOv ovP (orOv ovQ cfs)) 60 (.call 5 []) S0ev (fun v _ => match v with | .bool b => b | _ => false) := by kernel_rfl
theorem ct_law26_lives {G : Gh} {L : List Assn} {w : World} (hw : Sat G L w) (kev : Knows L EvKr) : Calls Tryz.prog 5 #[] w (Ret fun r w' => r = .bool true ∧ Sat G L w') :=
 ct_run (by kernel_rfl) (ovP_ok.or (ovQ_ok.or cfs_ok)) num_ok (by rw [← runC_eq]; exact rnL) hw kev
end Go.Proofs.YtnlakpappccekaaGreatDoor.X
