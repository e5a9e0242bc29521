/- Proved: the Go function coppicelaw06.DiskFresh (what is handed in is not kept; answers are new memory) returns true for every input, and all that was handed in reads as before. Conditions: none. -/
import Derived.Test.YtekilljcoplacaaXOpen
import Derived.Test.YtekilljcoplacaaXLaw6l
import Derived.ProofKit
namespace Go.Proofs.Ytekilljcoplacaa.diskFresh
open Go.ChangeShapes Go.WideShapes Go.RowKit
set_option linter.unusedVariables false

theorem own : ownKnob Try.prog.godebug = none := by kernel_rfl

set_option maxRecDepth 100000 in
theorem lifted (os : Os) (started : os.Started) (H : Type) (enc : TypeId × Value → H) :
    ReturnsInHanded {} Try.checked os 14 .any (Rows.diskFreshSpec.pre6 enc Try.prog Try.f14 Rows.diskFreshRow.domain false) (Rows.diskFreshSpec.post enc Try.prog Try.f14 false true false false) := by
  refine returnsInHanded_of_change_shaped (C := Try.checked) own started (by kernel_rfl) Try.func14
    (ChangeSpec.witness6 (enc := enc) (C := Try.checked) false ⟨#[], #[.agg #[.int .i64 0, .slice none 0 0], .slice none 0 0], []⟩ 8 (by kernel_rfl) (by kernel_rfl) (by kernel_rfl) (by kernel_rfl)) ?_
  intro W base args ds gs before hval0 hW hcnd hwt0 _ _
  have hval : ∀ (j : Nat) t v, Try.f14.params[j]? = some t → args[j]? = some v → Value.okWide Try.prog W .any base t v := hval0
  have hW' : DataW.Whole enc Try.prog Try.f14.params.toList Rows.diskFreshSpec.vars false W args.toList ds gs before := hW
  obtain ⟨p, q, hA0, hV, -, -, -⟩ := hW
  have hA : DataW.TrodAll enc Try.prog W 0 (fun _ => true) true Try.f14.params.toList args.toList ds p := hA0
  have hwt : ∀ q ∈ DataW.weightsEach Try.prog (Try.f14.params.toList ++ Rows.diskFreshSpec.plain.varTypes Try.prog) (ds ++ gs), q ≤ reachBytes := fun q hq => by simpa using List.all_eq_true.1 hwt0 q hq
  obtain ⟨rfl, -⟩ := trodVars_none hV
  rw [Try.params14] at hA hval hwt
  obtain ⟨v0, v1, d0, d1, p0, p1, rfl, rfl, -, h0, h1⟩ := trodAll_two hA
  have hv0 := hval 0 _ _ rfl rfl
  have hv1 := hval 1 _ _ rfl rfl
  obtain ⟨n0, hn0⟩ := h0
  obtain ⟨k0, s0, l0, rfl, ks0, hl0⟩ := X.open_start hv0 hn0 (fun q hq => hwt q (by simp [DataW.weightsEach, hq]))
  obtain ⟨n1, hn1⟩ := h1
  obtain ⟨os1, ko1⟩ := X.open_script (X.plain_slice X.U_sl_coppicelaw06_Op hv1) hn1 (fun q hq => hwt q (by simp [DataW.weightsEach, hq]))
  refine (X.ct_law06_DiskFresh (n := k0) (X.Sat.start W) ks0 (by omega) ko1).mono fun e W' hq => ?_
  obtain ⟨v, rfl, rfl, hs⟩ := hq
  exact ⟨_, rfl, X.post_true hW' rfl hs (by kernel_rfl) rfl (by rw [Try.params14]; decide +kernel)⟩

theorem over : Rows.diskFreshRow.holds Try.pinned (OpenSpec.ofChange Rows.diskFreshSpec) :=
  OpenClaim.holds_of_wide 14 Try.f14 rfl rfl rfl rfl rfl rfl rfl ⟨rfl, rfl, rfl, rfl, rfl⟩ rfl rfl rfl rfl rfl (by kernel_rfl) Try.func14 (by kernel_rfl)
    (of_decide_eq_true (by kernel_rfl)) (by unfold Func.isWrapper; first | (rw [if_pos (by decide +kernel)]; kernel_rfl) | (rw [if_neg (by decide +kernel)]; exact ⟨rfl, rfl⟩))
    (fun os started H enc _ => lifted os started H enc)

theorem proved : Rows.DiskFreshSaid :=
  over
#print axioms proved
end Go.Proofs.Ytekilljcoplacaa.diskFresh
