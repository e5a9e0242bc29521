/- Part 10 of what the proof of this claim stands on: rules for walking the code, and what its functions answer; no conditions. -/
import Derived.Test.YtnlakpappccekaaGreatDoorY9
namespace Go.Proofs.YtnlakpappccekaaGreatDoor.X
set_option linter.unusedVariables false
set_option linter.unusedSimpArgs false
set_option maxRecDepth 20000
set_option maxHeartbeats 8000000
section
variable {G : Gh} {L R : List Assn} {w : World}
theorem ct_law26_StreamReads {v : Value} {b : Bys} (hw : Sat G L w) (kev : Knows L EvKr) (kb : Knows L (SlB v b)) (hlb : b.length ≤ 140737488351232) : Calls Tryz.prog 3 #[v] w (Ret fun r w' => r = .bool true ∧ Sat G L w') := by
 refine calls_of_x (args := [_]) Tryz.func3 rfl Tryz.ntmps3 rfl rfl ?_
 refine x_seq ?_
 refine x_region rfl ?_
 refine x_as rfl rfl trivial rfl ?_
 refine xl_nil ?_
 refine x_seq ?_
 refine x_region rfl ?_
 refine x_mv rfl rfl trivial rfl ?_
 refine x_call rfl rfl trivial cal_law26_said rfl (ct_law26_said hw kb hlb) rfl (fun w v4 hv => ?_)
 obtain ⟨rfl, hw⟩ := hv
 refine x_mv rfl rfl trivial rfl ?_
 refine xl_split (d := 5) (p := True) rfl (fun h1 => ?_) (fun h1 => ?_)
 ·
  refine x_call rfl rfl ⟨_, rfl, rfl⟩ cal_law26_lives rfl (ct_law26_lives hw kev) rfl (fun w v6 hv => ?_)
  obtain ⟨rfl, hw⟩ := hv
  refine x_pickT rfl rfl trivial rfl rfl rfl ?_
  refine x_as rfl rfl trivial rfl ?_
  refine xl_nil ?_
  refine x_ret ?_
  exact end1 rfl rfl rfl ⟨rfl, hw⟩
 exact absurd trivial h1
end
end Go.Proofs.YtnlakpappccekaaGreatDoor.X
