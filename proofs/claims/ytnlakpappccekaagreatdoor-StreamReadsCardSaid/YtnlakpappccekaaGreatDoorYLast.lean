/- Proved: the Go function coppicelaw26.StreamReads (Head and Changes of any bytes answer as the document's do, the bytes stay, what is told is new memory; and a tree goes to another forest) returns true for every input, and what was handed in reads as before; the variable coppice/stream.everything is listed, and tied to the program's text. Conditions: none beyond the row's. -/
import Derived.Test.YtnlakpappccekaaGreatDoorY10
import Derived.Test.YtnlakpappccekaaGreatDoorYJ
import Derived.Test.YtnlakpappccekaaGreatDoorTie
import Derived.Test.YtnlakpappccekaaGreatDoorCards
import Derived.ProofKit
import Derived.LaidMore
import Derived.SevenTiedAt
namespace Go.Proofs.YtnlakpappccekaaGreatDoor.streamReads
open Go.ChangeShapes Go.WideShapes Go.RowKit
set_option linter.unusedVariables false

theorem own : ownKnob Tryz.prog.godebug = none := by kernel_rfl
theorem gEv : Tryz.prog.globalNamed (Rows.streamReadsRow.named.headD "") = some 0 := by kernel_rfl
theorem tEv : (Tryz.prog.globals[0]?).map (·.type) = some 61 := by kernel_rfl
abbrev lay : List (String × DataW Unit) := Rows.streamReadsRow.laid
theorem door_met (os : Os) (args : Array Value) : laidMetH Tryz.prog lay ((World.doorLaid Tryz.prog 400 os).forCall (fun _ _ => 0) ⟨#[], args, []⟩).memory :=
  laidMetH_of_parts3 (fuel := 8) (laidMet_of_run' 8 (by kernel_rfl) (by kernel_rfl)) (by kernel_rfl) (by kernel_rfl)
/-- the listed variable: its three cells -/
theorem of_laid {W : World} (h : laidMetH Tryz.prog lay W) : X.EvKr W := by
  rw [MakeChecks.laidMetH_plain _ _ _ (by kernel_rfl)] at h
  obtain ⟨ps, ⟨g0, t0, cs0, f0, p0, q0, hg0, ht0, hv0, hd0, _, _⟩, _, _⟩ := h
  obtain rfl := Option.some.inj (gEv.symm.trans hg0)
  obtain rfl := Option.some.inj (tEv.symm.trans ht0)
  obtain ⟨xs, m, -, hx, hl, hxl, hf⟩ := DataW.trod_struct Tryz.underlying61 hd0
  have hl3 : cs0.toList.length = 3 := hl.trans (by kernel_rfl)
  match hca : cs0.toList, hl3 with
  | [a, b, c], _ =>
    match xs, (show xs.length = 3 from hxl), hx with
    | [x0, x1, x2], _, hx =>
      rw [hca] at hf
      have h0 : DataW.trod (fun _ => ()) Tryz.prog W 0 (fun _ => true) false m 22 (([a, b, c].drop 0).take (Tryz.prog.cellsOf 22)) = some x0 := hf 0 _ rfl
      have h1 : DataW.trod (fun _ => ()) Tryz.prog W 0 (fun _ => true) false m 22 (([a, b, c].drop 1).take (Tryz.prog.cellsOf 22)) = some x1 := hf 1 _ rfl
      have h2 : DataW.trod (fun _ => ()) Tryz.prog W 0 (fun _ => true) false m 4 (([a, b, c].drop 2).take (Tryz.prog.cellsOf 4)) = some x2 := hf 2 _ rfl
      simp only [Rows.laid_coppice_stream_everything, List.map_cons, List.map_nil, Prod.mk.injEq, DataW.agg.injEq, List.cons.injEq, and_true] at hx
      obtain ⟨⟨e0, e1, e2⟩, -⟩ := hx
      have co : Tryz.prog.cellsOf 22 = 1 := by kernel_rfl
      have co4 : Tryz.prog.cellsOf 4 = 1 := by kernel_rfl
      rw [co] at h0 h1
      rw [co4] at h2
      simp only [List.drop_zero, List.drop_succ_cons, List.take_succ_cons, List.take_zero] at h0 h1 h2
      have f0 : ∀ {u : Value} {y}, DataW.trod (fun _ => ()) Tryz.prog W 0 (fun _ => true) false m 22 [u] = some y → .nil = y.1 → u = .slice none 0 0 := fun {u y} hu hy => by
        rcases DataW.trod_slice X.U_sl_uint8 hu with ⟨h1, _⟩ | ⟨_, _, _, _, _, _, _, _, h2, _⟩
        · simpa using h1
        · rw [h2] at hy; cases hy
      have hc2 : c = .bool true := by
        obtain ⟨k, h5, h6⟩ := DataW.trod_bool Tryz.underlying4 h2
        rw [h6] at e2
        simp at e2 h5
        subst e2; exact h5
      have ha := f0 h0 e0
      have hb := f0 h1 e1
      subst ha; subst hb; subst hc2
      intro j u hu
      rw [X.add_lit, Nat.zero_add, World.var?_cell hg0 hv0 j, ← Array.getElem?_toList, hca]
      exact hu

set_option maxRecDepth 100000 in
theorem lifted (os : Os) (started : os.Started) (H : Type) (enc : TypeId × Value → H) :
    ReturnsInHanded {} Tryz.checked os 3 .any (fun w args => (Rows.streamReadsSpec.pre enc Tryz.prog Tryz.f3 [] false w args ∧ laidMetH Tryz.prog lay w) ∧ sizedMet enc Tryz.prog Tryz.f3 (OpenSpec.ofChange Rows.streamReadsSpec) false w args)
      (Rows.streamReadsSpec.post enc Tryz.prog Tryz.f3 false true false false) := by
  refine returnsInHanded_of_change_and (C := Tryz.checked) (X := fun w _ => laidMetH Tryz.prog lay w) (fun _ _ _ hh h => h.of_heap hh) own started (by kernel_rfl) Tryz.func3
    (ChangeSpec.witness_shaped (enc := enc) (C := Tryz.checked) (os := os) (X := fun w _ => laidMetH Tryz.prog lay w) false (World.doorLaid Tryz.prog 400 os) #[.slice none 0 0] 8 rfl (World.shaped_of_RefB (by kernel_rfl) (by kernel_rfl)) (by kernel_rfl) (by kernel_rfl) (by kernel_rfl) (door_met os _)) ?_
  intro W base args ds gs before hval0 hW hcnd hwt0 hL _
  have hval : ∀ (j : Nat) t v, Tryz.f3.params[j]? = some t → args[j]? = some v → Value.okWide Tryz.prog W .any base t v := hval0
  have hW' : DataW.Whole enc Tryz.prog Tryz.f3.params.toList Rows.streamReadsSpec.vars false W args.toList ds gs before := hW
  obtain ⟨p, q, hA0, hV, -, -, -⟩ := hW
  have hA : DataW.TrodAll enc Tryz.prog W 0 (fun _ => true) true Tryz.f3.params.toList args.toList ds p := hA0
  have hwt : ∀ q ∈ DataW.weightsEach Tryz.prog (Tryz.f3.params.toList ++ Rows.streamReadsSpec.plain.varTypes Tryz.prog) (ds ++ gs), q ≤ reachBytes := fun q hq => by simpa using List.all_eq_true.1 hwt0 q hq
  obtain ⟨rfl, -⟩ := trodVars_none hV
  rw [Tryz.params3] at hA hval hwt
  obtain ⟨v0, d0, rfl, rfl, h0⟩ := trodAll_one hA
  have hv0 := hval 0 _ _ rfl rfl
  obtain ⟨n0, hn0⟩ := h0
  obtain ⟨l, kl, hl⟩ := X.open_arg_bytes (X.plain_slice X.U_sl_uint8 hv0) hn0 (fun q hq => hwt q (by simp [DataW.weightsEach, hq]))
  refine (X.ct_law26_StreamReads (X.Sat.start W) (X.Rd.old (of_laid hL)) kl hl).mono fun e W' hq => ?_
  obtain ⟨v, rfl, rfl, hs⟩ := hq
  exact ⟨_, rfl, X.post_true hW' rfl hs (by kernel_rfl) rfl (by rw [Tryz.params3]; decide +kernel)⟩

theorem over : Rows.streamReadsRow.holds Tryz.pinned (OpenSpec.ofChange Rows.streamReadsSpec) :=
  OpenClaim.holds_of_wide 3 Tryz.f3 rfl rfl rfl rfl rfl rfl rfl ⟨rfl, rfl, rfl, rfl, rfl⟩ rfl rfl rfl rfl rfl (by kernel_rfl) Tryz.func3 joined
    (of_decide_eq_true (by kernel_rfl)) (by unfold Func.isWrapper; first | (rw [if_pos (by decide +kernel)]; kernel_rfl) | (rw [if_neg (by decide +kernel)]; exact ⟨rfl, rfl⟩))
    (fun os started H enc _ => lifted os started H enc)

theorem proved : Rows.StreamReadsCardSaid :=
  Claim7.holds_tied_plain_at .later [] [.widerDeep] true (true, "c9bb2bbed83b222cd45eed8d4053d664cd40cf501b12762c2209d3cdb0349357") true
    over (fun _ h => by cases h) wfRow (fun _ h => by cases h) streamReads_row_tie rfl ⟨rfl, rfl⟩ (by kernel_rfl) rfl
    (fun f fn hf hfn => by
      obtain rfl : f = 3 := Option.some.inj ((show Tryz.prog.funcNamed Rows.streamReadsRow.func = some 3 by kernel_rfl).symm.trans hf) |>.symm
      obtain rfl : fn = Tryz.f3 := (Option.some.inj (Tryz.func3.symm.trans hfn)).symm
      exact ⟨looksRow, fun j t ht => by
        rw [Tryz.params3] at ht
        have h3 : t = 22 := by
          rcases j with _ | j
          · simpa using ht.symm
          · simp at ht
        subst h3
        exact (show Tryz.prog.wantsStandIn 22 = false by kernel_rfl)⟩)

    goesRow
#print axioms proved
end Go.Proofs.YtnlakpappccekaaGreatDoor.streamReads
