/- Proved: the Go function coppicelaw22.FsckLoads (any bytes of a disk, any superblock: Load and Bad answer as the document does; nothing is written; without power both are refused) returns true for every input, and all that was handed in reads as before; the variables errors.errorType and coppice/walk.everything are listed, and tied to the program's text. Conditions: none beyond the row's. -/
import Derived.Test.YtjbkgbilbnccnaaGreatDoorY9
import Derived.Test.YtjbkgbilbnccnaaGreatDoorYJ
import Derived.Test.YtjbkgbilbnccnaaGreatDoorTie
import Derived.Test.YtjbkgbilbnccnaaGreatDoorCards
import Derived.ProofKit
import Derived.LaidMore
import Derived.SevenTiedAt
namespace Go.Proofs.YtjbkgbilbnccnaaGreatDoor.fsckLoads
open Go.ChangeShapes Go.WideShapes Go.RowKit
set_option linter.unusedVariables false

theorem own : ownKnob Tryz.prog.godebug = none := by kernel_rfl
theorem gEv : Tryz.prog.globalNamed "coppice/walk.everything" = some 0 := by kernel_rfl
theorem tEv : (Tryz.prog.globals[0]?).map (·.type) = some 64 := by kernel_rfl
theorem gEt : Tryz.prog.globalNamed "errors.errorType" = some 1 := by kernel_rfl
theorem rtEt : (Tryz.prog.cutTypes.find? (·.1 == "internal/reflectlite.rtype")).map (·.2) = some 323 := by kernel_rfl
abbrev lay : List (String × DataW Unit) := Rows.fsckLoadsRow.laid
theorem door_met (os : Os) (args : Array Value) : laidMetH Tryz.prog lay ((World.doorLaid Tryz.prog 400 os).forCall (fun _ _ => 0) ⟨#[], args, []⟩).memory :=
  laidMetH_of_parts3 (fuel := 8) (laidMet_of_run' 8 (by kernel_rfl) (by kernel_rfl)) (by kernel_rfl) (by kernel_rfl)
/-- the listed variable: its three cells -/
theorem of_laid {W : World} (h : laidMetH Tryz.prog lay W) : X.EvK W := by
  have h' : laidMet Tryz.prog [("coppice/walk.everything", Rows.laid_coppice_walk_everything)] W ∧ handlesMet Tryz.prog [("errors.errorType", Rows.laid_errors_errorType)] W := h
  replace h := h'.1
  obtain ⟨ps, ⟨g0, t0, cs0, f0, p0, q0, hg0, ht0, hv0, hd0, _, _⟩, _, _⟩ := h
  obtain rfl := Option.some.inj (gEv.symm.trans hg0)
  obtain rfl := Option.some.inj (tEv.symm.trans ht0)
  obtain ⟨xs, m, -, hx, hl, hxl, hf⟩ := DataW.trod_struct Tryz.underlying64 hd0
  have hl3 : cs0.toList.length = 3 := hl.trans (by kernel_rfl)
  match hca : cs0.toList, hl3 with
  | [a, b, c], _ =>
    match xs, (show xs.length = 3 from hxl), hx with
    | [x0, x1, x2], _, hx =>
      rw [hca] at hf
      have h0 : DataW.trod (fun _ => ()) Tryz.prog W 0 (fun _ => true) false m 55 (([a, b, c].drop 0).take (Tryz.prog.cellsOf 55)) = some x0 := hf 0 _ rfl
      have h1 : DataW.trod (fun _ => ()) Tryz.prog W 0 (fun _ => true) false m 55 (([a, b, c].drop 1).take (Tryz.prog.cellsOf 55)) = some x1 := hf 1 _ rfl
      have h2 : DataW.trod (fun _ => ()) Tryz.prog W 0 (fun _ => true) false m 4 (([a, b, c].drop 2).take (Tryz.prog.cellsOf 4)) = some x2 := hf 2 _ rfl
      simp only [Rows.laid_coppice_walk_everything, List.map_cons, List.map_nil, Prod.mk.injEq, DataW.agg.injEq, List.cons.injEq, and_true] at hx
      obtain ⟨⟨e0, e1, e2⟩, -⟩ := hx
      have co : Tryz.prog.cellsOf 55 = 1 := by kernel_rfl
      have co4 : Tryz.prog.cellsOf 4 = 1 := by kernel_rfl
      rw [co] at h0 h1
      rw [co4] at h2
      simp only [List.drop_zero, List.drop_succ_cons, List.take_succ_cons, List.take_zero] at h0 h1 h2
      have f0 : ∀ {u : Value} {y}, DataW.trod (fun _ => ()) Tryz.prog W 0 (fun _ => true) false m 55 [u] = some y → .nil = y.1 → u = .slice none 0 0 := fun {u y} hu hy => by
        rcases DataW.trod_slice X.aR hu with ⟨h1, _⟩ | ⟨_, _, _, _, _, _, _, _, h2, _⟩
        · simpa using h1
        · rw [h2] at hy; cases hy
      have hc2 : c = .bool true := by
        obtain ⟨k, h5, h6⟩ := DataW.trod_bool Tryz.underlying4 h2
        rw [h6] at e2
        simp at e2 h5
        subst e2; exact h5
      have ha := f0 h0 e0
      have hb := f0 h1 e1
      subst ha; subst hb; subst hc2
      intro j u hu
      rw [X.eK, Nat.zero_add, World.var?_cell hg0 hv0 j, ← Array.getElem?_toList, hca]
      exact hu

theorem oneRow : ((List.range 473).filter fun t => Tryz.prog.rowNamed t [101, 114, 114, 111, 114]) = [143] := by kernel_rfl
theorem tsize : Tryz.prog.types.size = 473 := by kernel_rfl
/-- the listed handle: its one cell -/
theorem handle_of_laid {W : World} (h : laidMetH Tryz.prog lay W) : X.EtK W := by
  have h' : laidMet Tryz.prog [("coppice/walk.everything", Rows.laid_coppice_walk_everything)] W ∧ handlesMet Tryz.prog [("errors.errorType", Rows.laid_errors_errorType)] W := h
  obtain ⟨name, u, ty, e1, e2, e3, e4, e5⟩ := h'.2 _ (List.mem_singleton.2 rfl)
  have en : name = [101, 114, 114, 111, 114] := (Option.some.inj e1).symm
  subst en
  obtain rfl := Option.some.inj (rtEt.symm.trans e2)
  have hm : ty ∈ (List.range 473).filter fun t => Tryz.prog.rowNamed t [101, 114, 114, 111, 114] := List.mem_filter.2 ⟨List.mem_range.2 (by rw [← tsize]; exact e3), e4⟩
  rw [oneRow] at hm
  obtain rfl := List.mem_singleton.1 hm
  have hh : typeHandle Tryz.prog 143 = .pointer (some ⟨3, 143, none⟩) := by kernel_rfl
  rw [hh] at e5
  have h9 := World.var?_cell gEt e5 0
  exact h9
theorem et_old {W : World} (h : X.EtK W) : X.aL [X.Old W] X.EtK := fun g w hw => by
  have h1 : X.Rd W ⟨1, 0, none⟩ [.iface 323 (.agg #[.pointer (some ⟨3, 143, none⟩)])] := fun j u hu => by
    cases j with
    | zero => cases hu; exact h
    | succ j => cases hu
  exact (X.Rd.qV h1) g w hw 0 _ rfl

set_option maxRecDepth 100000 in
theorem lifted (os : Os) (started : os.Started) (H : Type) (enc : TypeId × Value → H) :
    ReturnsInHanded {} Tryz.checked os 6 .any (fun w args => (Rows.fsckLoadsSpec.pre enc Tryz.prog Tryz.f6 [] false w args ∧ laidMetH Tryz.prog lay w) ∧ sizedMet enc Tryz.prog Tryz.f6 (OpenSpec.ofChange Rows.fsckLoadsSpec) false w args)
      (Rows.fsckLoadsSpec.post enc Tryz.prog Tryz.f6 false true false false) := by
  refine returnsInHanded_of_change_and (C := Tryz.checked) (X := fun w _ => laidMetH Tryz.prog lay w) (fun _ _ _ hh h => h.of_heap hh) own started (by kernel_rfl) Tryz.func6
    (ChangeSpec.witness_shaped (enc := enc) (C := Tryz.checked) (os := os) (X := fun w _ => laidMetH Tryz.prog lay w) false (World.doorLaid Tryz.prog 400 os) #[.slice none 0 0, .agg #[.int .i64 0, .int .i64 0, .int .i64 0, .int .i64 0, .int .i64 0, .slice none 0 0]] 8 rfl (World.shaped_of_RefB (by kernel_rfl) (by kernel_rfl)) (by kernel_rfl) (by kernel_rfl) (by kernel_rfl) (door_met os _)) ?_
  intro W base args ds gs before hval0 hW hcnd hwt0 hL _
  have hval : ∀ (j : Nat) t v, Tryz.f6.params[j]? = some t → args[j]? = some v → Value.okWide Tryz.prog W .any base t v := hval0
  have hW' : DataW.Whole enc Tryz.prog Tryz.f6.params.toList Rows.fsckLoadsSpec.vars false W args.toList ds gs before := hW
  obtain ⟨p, q, hA0, hV, -, -, -⟩ := hW
  have hA : DataW.TrodAll enc Tryz.prog W 0 (fun _ => true) true Tryz.f6.params.toList args.toList ds p := hA0
  have hwt : ∀ q ∈ DataW.weightsEach Tryz.prog (Tryz.f6.params.toList ++ Rows.fsckLoadsSpec.plain.varTypes Tryz.prog) (ds ++ gs), q ≤ reachBytes := fun q hq => by simpa using List.all_eq_true.1 hwt0 q hq
  obtain ⟨rfl, -⟩ := trodVars_none hV
  rw [Tryz.params6] at hA hval hwt
  obtain ⟨v0, v1, d0, d1, p0, p1, rfl, rfl, -, h0, h1⟩ := trodAll_two hA
  have hv0 := hval 0 _ _ rfl rfl
  have hv1 := hval 1 _ _ rfl rfl
  have hw0 : ∀ q ∈ DataW.weights Tryz.prog 55 d0, q ≤ reachBytes := fun q hq => hwt q (by simp [DataW.weightsEach, hq])
  have hw1 : ∀ q ∈ DataW.weights Tryz.prog 74 d1, q ≤ reachBytes := fun q hq => hwt q (by simp [DataW.weightsEach, hq])
  obtain ⟨n0, hn0⟩ := h0
  obtain ⟨n1, hn1⟩ := h1
  obtain ⟨l, kl, hl⟩ := X.aaa (X.aeo X.aR hv0) hn0 hw0
  obtain ⟨s, rv, rfl, kr, hr⟩ := X.afi hv1 hn1 hw1
  refine (X.UM (X.aw.start W) (et_old (handle_of_laid hL)) (X.Rd.qV (of_laid hL)) kl (by omega) kr hr).mono fun e W' hq => ?_
  obtain ⟨v, rfl, rfl, hs⟩ := hq
  exact ⟨_, rfl, X.agm hW' rfl hs (by kernel_rfl) rfl (by rw [Tryz.params6]; decide +kernel)⟩

theorem over : Rows.fsckLoadsRow.holds Tryz.pinned (OpenSpec.ofChange Rows.fsckLoadsSpec) :=
  OpenClaim.holds_of_wide 6 Tryz.f6 rfl rfl rfl rfl rfl rfl rfl ⟨rfl, rfl, rfl, rfl, rfl⟩ rfl rfl rfl rfl rfl (by kernel_rfl) Tryz.func6 joined
    (of_decide_eq_true (by kernel_rfl)) (by unfold Func.isWrapper; first | (rw [if_pos (by decide +kernel)]; kernel_rfl) | (rw [if_neg (by decide +kernel)]; exact ⟨rfl, rfl⟩))
    (fun os started H enc _ => lifted os started H enc)

theorem proved : Rows.FsckLoadsCardSaid :=
  Claim7.holds_tied_plain_at .later [] [.handle, .widerDeep] true (true, "21946087f199bd93ea9d3d5fd9d7f2a7c06fe72fef1240ab55ee3890a036e438") true
    over (fun _ h => by cases h) wfRow (fun _ h => by cases h) fsckLoads_row_tie rfl ⟨rfl, rfl⟩ (by kernel_rfl) rfl
    (fun f fn hf hfn => by
      obtain rfl : f = 6 := Option.some.inj ((show Tryz.prog.funcNamed Rows.fsckLoadsRow.func = some 6 by kernel_rfl).symm.trans hf) |>.symm
      obtain rfl : fn = Tryz.f6 := (Option.some.inj (Tryz.func6.symm.trans hfn)).symm
      exact ⟨looksRow, fun j t ht => by
        rw [Tryz.params6] at ht
        have h3 : t = 55 ∨ t = 74 := by
          rcases j with _ | _ | j
          · exact .inl (by simpa using ht.symm)
          · exact .inr (by simpa using ht.symm)
          · simp at ht
        rcases h3 with rfl | rfl
        · exact (show Tryz.prog.wantsStandIn 55 = false by kernel_rfl)
        · exact (show Tryz.prog.wantsStandIn 74 = false by kernel_rfl)⟩)

    goesRow
#print axioms proved
end Go.Proofs.YtjbkgbilbnccnaaGreatDoor.fsckLoads
