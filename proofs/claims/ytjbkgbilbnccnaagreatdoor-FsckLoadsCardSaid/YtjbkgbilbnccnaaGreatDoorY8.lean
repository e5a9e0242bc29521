/- Part 8 of what the proof of this claim stands on: rules for walking the code, and what its functions answer; no conditions. -/
import Derived.Test.YtjbkgbilbnccnaaGreatDoorY7
namespace Go.Proofs.YtjbkgbilbnccnaaGreatDoor.X
open _root_.Go.Proofs.Tryz _root_.Go.Proofs.YtjbkgbilbnccnaaGreatDoor.Tryz
set_option linter.defProp false
noncomputable section
set_option linter.unusedVariables false
set_option linter.unusedSimpArgs false
set_option maxRecDepth 20000
set_option maxHeartbeats 8000000
def af4:tQ prog 257:=⟨by kernel_rfl,by kernel_rfl,by kernel_rfl,by kernel_rfl⟩
def afl:(prog.funcs.all fun fn=>fn.body.isNone||!(fn.name== "runtime.NumGoroutine"))=true:=kR
def Yd:true=runK prog 1 257 40 (.call 7 []) ad8 (fun v _=>match v with| .bool b=>b|_=>false):=by kernel_rfl
def H6{G:Gh}{L:List aF}{w:ae}(Z:aw G L w)(YE:aL L aea):aA prog 7 #[] w (bU fun r w'=>r= .bool true/\aw G L w'):=af1 kR af4 afl Yd Z YE
end
end Go.Proofs.YtjbkgbilbnccnaaGreatDoor.X
