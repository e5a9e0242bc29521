/- Proved: the Go function coppicelaw06.DiskKeeps (what lasts behind a failing power is what lasted, with the writes that were kept, in their order) returns true for every input, and all that was handed in reads as before. Conditions: none. -/
import Derived.Test.YtekilljcoplacaaXOpen
import Derived.Test.YtekilljcoplacaaXLaw6k
import Derived.ProofKit
namespace Go.Proofs.Ytekilljcoplacaa.diskKeeps
open Go.ChangeShapes Go.WideShapes Go.RowKit
set_option linter.unusedVariables false

theorem own : ownKnob Try.prog.godebug = none := by kernel_rfl

set_option maxRecDepth 100000 in
theorem lifted (os : Os) (started : os.Started) (H : Type) (enc : TypeId × Value → H) :
    ReturnsInHanded {} Try.checked os 12 .any (Rows.diskKeepsSpec.pre6 enc Try.prog Try.f12 Rows.diskKeepsRow.domain false) (Rows.diskKeepsSpec.post enc Try.prog Try.f12 false true false false) := by
  refine returnsInHanded_of_change_shaped (C := Try.checked) own started (by kernel_rfl) Try.func12
    (ChangeSpec.witness6 (enc := enc) (C := Try.checked) false ⟨#[], #[.agg #[.int .i64 0, .slice none 0 0], .slice none 0 0, .slice none 0 0], []⟩ 8 (by kernel_rfl) (by kernel_rfl) (by kernel_rfl) (by kernel_rfl)) ?_
  intro W base args ds gs before hval0 hW hcnd hwt0 _ _
  have hval : ∀ (j : Nat) t v, Try.f12.params[j]? = some t → args[j]? = some v → Value.okWide Try.prog W .any base t v := hval0
  have hW' : DataW.Whole enc Try.prog Try.f12.params.toList Rows.diskKeepsSpec.vars false W args.toList ds gs before := hW
  obtain ⟨p, q, hA0, hV, -, -, -⟩ := hW
  have hA : DataW.TrodAll enc Try.prog W 0 (fun _ => true) true Try.f12.params.toList args.toList ds p := hA0
  have hwt : ∀ q ∈ DataW.weightsEach Try.prog (Try.f12.params.toList ++ Rows.diskKeepsSpec.plain.varTypes Try.prog) (ds ++ gs), q ≤ reachBytes := fun q hq => by simpa using List.all_eq_true.1 hwt0 q hq
  obtain ⟨rfl, -⟩ := trodVars_none hV
  rw [Try.params12] at hA hval hwt
  obtain ⟨v0, v1, v2, d0, d1, d2, p0, p1, p2, rfl, rfl, -, h0, h1, h2⟩ := trodAll_three hA
  have hv0 := hval 0 _ _ rfl rfl
  have hv1 := hval 1 _ _ rfl rfl
  have hv2 := hval 2 _ _ rfl rfl
  obtain ⟨n0, hn0⟩ := h0
  obtain ⟨k0, s0, l0, rfl, ks0, hl0⟩ := X.open_start hv0 hn0 (fun q hq => hwt q (by simp [DataW.weightsEach, hq]))
  obtain ⟨n1, hn1⟩ := h1
  obtain ⟨os1, ko1⟩ := X.open_script (X.plain_slice X.U_sl_coppicelaw06_Op hv1) hn1 (fun q hq => hwt q (by simp [DataW.weightsEach, hq]))
  obtain ⟨n2, hn2⟩ := h2
  obtain ⟨l2, ks2, hl2⟩ := X.open_arg_bools (X.plain_slice Try.underlying41 hv2) hn2 (fun q hq => hwt q (by simp [DataW.weightsEach, hq]))
  refine (X.ct_law06_DiskKeeps (n := k0) (X.Sat.start W) ks0 (by omega) ko1 ks2 (by omega)).mono fun e W' hq => ?_
  obtain ⟨v, rfl, rfl, hs⟩ := hq
  exact ⟨_, rfl, X.post_true hW' rfl hs (by kernel_rfl) rfl (by rw [Try.params12]; decide +kernel)⟩

theorem over : Rows.diskKeepsRow.holds Try.pinned (OpenSpec.ofChange Rows.diskKeepsSpec) :=
  OpenClaim.holds_of_wide 12 Try.f12 rfl rfl rfl rfl rfl rfl rfl ⟨rfl, rfl, rfl, rfl, rfl⟩ rfl rfl rfl rfl rfl (by kernel_rfl) Try.func12 (by kernel_rfl)
    (of_decide_eq_true (by kernel_rfl)) (by unfold Func.isWrapper; first | (rw [if_pos (by decide +kernel)]; kernel_rfl) | (rw [if_neg (by decide +kernel)]; exact ⟨rfl, rfl⟩))
    (fun os started H enc _ => lifted os started H enc)

theorem proved : Rows.DiskKeepsSaid :=
  over
#print axioms proved
end Go.Proofs.Ytekilljcoplacaa.diskKeeps
