/- DiskKeeps, walked. -/
import Derived.Test.YtekilljcoplacaaXLaw6j
namespace Go.Proofs.Ytekilljcoplacaa.X
set_option linter.unusedVariables false
set_option linter.unusedSimpArgs false
set_option maxRecDepth 20000

theorem ocells_len : ∀ o : OpV, o.cells.length = 4 := fun _ => rfl
theorem arm_wrote {E : Dk} {n : Int} : (E.arm n).wrote = E.wrote := by unfold Dk.arm; split <;> rfl
/-- the disk behind the power's failing -/
def Dk.kept (D : Dk) (kl : List Bool) : Dk := ⟨settleL (keepQ kl) D.ws 0 D.lasts, [], true, -1, D.wrote, D.synced⟩
theorem kept_eq {D : Dk} (kl : List Bool) : D.failed.onK kl = D.kept kl := by unfold Dk.onK; simp [Dk.failed, Dk.kept]

section
variable {G : Gh} {L R : List Assn} {w : World} {p : Nat} {D : Dk}

theorem ct_law06_DiskKeeps_go {n : Int} {sv v s : Value} {l : Bys} {os : List OpV} {kl : List Bool} (hw : Sat G L w) (ka : Knows L (SlB sv l)) (hll : l.length ≤ 140737488355328) (ko : Script L v os) (kk : Knows L (SlV s (bools kl))) (hkl : kl.length ≤ 140737488355328) (hD : startD n l = some D) :
    Calls Try.prog 12 #[.agg #[.int .i64 n, sv], v, s] w (Ret fun r w' => r = .bool true ∧ Sat G L w') := by
  obtain ⟨a, cap, rfl, hcap, hasp⟩ := (ko.sl.at hw).form
  obtain ⟨a2, cap2, rfl⟩ := (kk.at hw).form
  simp only [bools_length] at kk ⊢
  obtain ⟨-, -, -, hwr, hsyn⟩ := startD_fresh hD
  refine calls_of_x (args := [_, _, _]) func_law06_DiskKeeps rfl nt_law06_DiskKeeps rfl ?_
  refine x_seq ?_
  refine x_region rfl ?_
  refine x_box rfl rfl trivial rfl rfl hw rfl (fun w b3 hw => ?_)  -- law.go:225 box[37] t0
  refine x_as rfl rfl trivial rfl ?_  -- law.go:225 assign False
  refine xl_nil ?_
  refine x_seq ?_
  refine x_region rfl ?_
  refine x_mv rfl rfl trivial rfl ?_  -- law.go:226 move t1
  refine x_mv rfl rfl trivial rfl ?_  -- law.go:226 move t1
  refine x_len rfl rfl trivial rfl U_sl_coppicelaw06_Op rfl ?_  -- law.go:226 len(t16)
  -- law.go:226 min(t17, 60)
  refine x_min2 rfl rfl trivial rfl rfl ?_
  -- law.go:226 slice[38] t15 [-:t18:-]
  refine x_cutH rfl rfl trivial U_sl_coppicelaw06_Op szs_coppicelaw06_Op rfl hasp rfl ⟨by omega, by omega⟩ ?_
  have hsl : Knows L (SlO (.slice a (os.take 60).length cap) (os.take 60)) := ko.sl.mono fun w h => h.take 60
  have hok : ∀ o ∈ os.take 60, o.Ok L := fun o h => ko.ok o (List.mem_of_mem_take h)
  have hlen : (os.take 60).length ≤ 60 := by simp; omega
  rw [show (min (os.length : Int) 60).toNat = (os.take 60).length by simp; omega]
  generalize os.take 60 = os' at hsl hok hlen ⊢
  refine x_as rfl rfl trivial rfl ?_  -- law.go:226 assign t19
  refine xl_nil ?_
  refine x_seq ?_
  refine x_seq ?_
  refine x_region rfl ?_
  refine x_call rfl rfl trivial cal_law06_works rfl (ct_law06_works hw) rfl (fun w v20 hv => ?_)  -- law.go:227 call f18 coppice/coppicelaw06.works()
  obtain ⟨rfl, hw⟩ := hv
  -- law.go:227 unOp "not" 4 20
  refine x_not rfl rfl trivial rfl ?_
  refine xl_nil ?_
  refine x_cond_false rfl ?_
  refine x_skip ?_
  refine x_seq ?_
  refine x_region rfl ?_
  refine x_ld rfl rfl trivial rfl (Loads.blkA many_coppicelaw06_Start hw (by repeat (first | with_reducible exact Pick.here | apply Pick.there)) (by simp)) ?_  -- law.go:230 load[37] t3
  refine x_call rfl rfl trivial cal_law06_started rfl (ct_law06_started (n := n) (l := l) hw (ka.of (by repeat (first | exact Suf.refl _ | apply Suf.cons))) hll) rfl (fun w v23 hv => ?_)  -- law.go:230 call f22 coppice/coppicelaw06.started(t22)
  obtain ⟨h1, -, -⟩ | ⟨D', q, h1, rfl, hw⟩ := hv
  case inl => rw [hD] at h1; cases h1
  obtain rfl : D = D' := by rw [hD] at h1; exact Option.some.inj h1
  replace hw := hw.drop (.there .here)
  refine x_as rfl rfl trivial rfl ?_  -- law.go:230 assign t23
  refine xl_nil ?_
  refine x_seq ?_
  refine x_seq ?_
  refine x_region rfl ?_
  refine x_mv rfl rfl trivial rfl ?_  -- law.go:231 move t7
  refine x_eqnil rfl rfl trivial rfl U_p_disk_Disk rfl ?_  -- law.go:231 eql[25] t24 {'nilptr': 1}
  refine xl_nil ?_
  refine x_cond_false rfl ?_
  refine x_skip ?_
  refine x_seq ?_
  refine x_region rfl ?_
  refine x_mv rfl rfl trivial rfl ?_  -- law.go:234 move t7
  refine x_mv rfl rfl trivial rfl ?_  -- law.go:234 move t1
  refine x_call rfl rfl trivial cal_law06_run rfl (ct_law06_run (D := D) (os := os') hw (hsl.of (by repeat (first | exact Suf.refl _ | apply Suf.cons))) (fun o h => (hok o h).of (by repeat (first | exact Suf.refl _ | apply Suf.cons))) hlen ⟨by omega, by omega⟩) rfl (fun w v28 hv => ?_)  -- law.go:234 call f32 coppice/coppicelaw06.run(t26, t27)
  obtain ⟨-, hw⟩ := hv
  have hcnt := runD_cnt D os'
  generalize runD D os' = E at hw hcnt
  have hEok := (dsk_open hw).1
  refine xl_nil ?_
  refine x_seq ?_
  refine x_region rfl ?_
  refine x_mv rfl rfl trivial rfl ?_  -- law.go:235 move t7
  refine x_call rfl rfl trivial cal_disk_Disk_Arm rfl (ct_disk_Disk_Arm (D := E) (n := -1) (p := q) hw (by decide)) rfl (fun w v30 hv => ?_)  -- law.go:235 call f23 (*coppice/disk.Disk).Arm(t29, -1)
  obtain ⟨-, hw⟩ := hv
  refine xl_nil ?_
  refine x_join (fun e w => ∃ B : Dk, e = [(1, .slice a os'.length cap), (2, .slice a2 kl.length cap2), (7, .pointer (some ⟨q, 0, none⟩))] ∧ (Calm B ∧ B.wrote = E.wrote ∧ B.synced = E.synced) ∧ Sat G (dsk q B :: L) w) ?_ ?_
  · -- as far as J11
    refine x_seq ?_
    refine x_region rfl ?_
    refine x_mv rfl rfl trivial rfl ?_  -- law.go:236 move t7
    refine x_call rfl rfl trivial cal_disk_Disk_IsOn rfl (ct_disk_Disk_IsOn (D := E.arm (-1)) (p := q) hw) rfl (fun w v32 hv => ?_)  -- law.go:236 call f27 (*coppice/disk.Disk).IsOn(t31)
    obtain ⟨rfl, hw⟩ := hv
    rw [arm_on]
    -- law.go:236 unOp "not" 4 32
    refine x_not rfl rfl trivial rfl ?_
    refine xl_nil ?_
    refine x_cond rfl (fun h3 => ?_) (fun h3 => ?_)
    · -- yes
      refine x_region rfl ?_
      refine x_mv rfl rfl trivial rfl ?_  -- law.go:237 move t7
      refine x_call rfl rfl trivial cal_disk_Disk_On rfl (ct_disk_Disk_On (D := E.arm (-1)) (kl := []) (p := q) hw (fun _ _ _ => .inl ⟨⟨none, rfl⟩, rfl⟩) (by rw [arm_wrote]; omega)) rfl (fun w v35 hv => ?_)  -- law.go:237 call f34 (*coppice/disk.Disk).On(t34, {'nilslice': 1})
      obtain ⟨-, hw⟩ := hv
      refine xl_nil ?_
      exact ⟨[(1, _), (2, _), (7, _)], (by repeat (first | exact Sub.nil _ | refine Sub.cons rfl ?_)), _, rfl, keeps_off hEok (by simpa using h3), hw⟩
    · -- no
      refine x_skip ?_
      exact ⟨[(1, _), (2, _), (7, _)], (by repeat (first | exact Sub.nil _ | refine Sub.cons rfl ?_)), _, rfl, keeps_on (by simpa using h3), hw⟩
  · -- from J11
    clear hw
    rintro e w ⟨B, rfl, ⟨hB, hBw, hBs⟩, hw⟩
    obtain ⟨S, hsy, hSc, hSw, hSwr, hSl⟩ := calm_sync hB
    refine x_seq ?_
    refine x_seq ?_
    refine x_region rfl ?_
    refine x_mv rfl rfl trivial rfl ?_  -- law.go:239 move t7
    refine x_call rfl rfl trivial cal_disk_Disk_Sync rfl (ct_disk_Disk_Sync (D := B) (p := q) hw (by omega) (by omega)) rfl (fun w v37 hv => ?_)  -- law.go:239 call f24 (*coppice/disk.Disk).Sync(t36)
    obtain ⟨rfl, hw⟩ := hv
    rw [hsy] at hw ⊢
    refine x_ne rfl rfl trivial rfl rfl rfl ?_  -- law.go:239 neq[26] t37 0
    refine x_mv rfl rfl trivial rfl ?_  -- law.go:239 move t38
    refine xl_split (d := 39) rfl (fun h4 => ?_) (fun h4 => ?_)
    · -- yes
      exact absurd rfl h4
    · -- no
      refine x_mv rfl rfl ⟨_, rfl, rfl⟩ rfl ?_  -- law.go:239 move t7
      refine x_call rfl rfl ⟨_, rfl, rfl⟩ cal_disk_Disk_Unsynced rfl (ct_disk_Disk_Unsynced (D := S) (p := q) hw (by omega)) rfl (fun w v41 hv => ?_)  -- law.go:239 call f31 (*coppice/disk.Disk).Unsynced(t40)
      have hw := hv
      obtain ⟨a41, c41, rfl⟩ := row_form hw
      refine x_len rfl rfl ⟨_, rfl, rfl⟩ rfl U_sl_int rfl ?_  -- law.go:239 len(t41)
      refine x_ne rfl rfl ⟨_, rfl, rfl⟩ rfl rfl rfl ?_  -- law.go:239 neq[3] t42 0
      refine x_pickF rfl rfl trivial rfl rfl rfl ?_  -- law.go:239 pick t39 ? True : t43
      refine xl_nil ?_
      refine x_if rfl (fun h5 => ?_) (fun h5 => ?_)
      · -- yes
        (rw [hSw] at h5; exact absurd rfl h5)
      · -- no
        replace hw := hw.tail
        have hSok := (dsk_open hw).1
        have hSi := hSok.img
        have hShi := hSok.hi
        have hSlo := hSok.lo
        refine x_skip ?_
        refine x_seq ?_
        refine x_region rfl ?_
        refine x_mv rfl rfl trivial rfl ?_  -- law.go:242 move t7
        refine x_call rfl rfl trivial cal_disk_Disk_Image rfl (ct_disk_Disk_Image (D := S) (p := q) hw) rfl (fun w v46 hv => ?_)  -- law.go:242 call f20 (*coppice/disk.Disk).Image(t45)
        have hw := hv
        obtain ⟨a8, c8, rfl⟩ := row_form hw
        obtain ⟨N8, hN8⟩ : ∃ n, n = 512 * S.lasts.length := ⟨_, rfl⟩
        rw [← hN8] at hw hSi ⊢
        have hw := row_nil hw 43 4
        refine x_as rfl rfl trivial rfl ?_  -- law.go:242 assign t46
        refine xl_nil ?_
        refine x_seq ?_
        refine x_region rfl ?_
        refine x_as rfl rfl trivial rfl ?_  -- law.go:243 assign {'nilslice': 1}
        refine xl_nil ?_
        refine x_seq ?_
        refine x_seq ?_
        refine x_region rfl ?_
        refine x_as rfl rfl trivial rfl ?_  -- law.go:244 assign 0
        refine xl_nil ?_
        refine x_block ?_
        refine x_loop (fun m e w => ∃ (k : Nat) (D : Dk) (wr : List OpV) (u : Value), k ≤ os'.length ∧ m = os'.length - k ∧ e = [(1, .slice a os'.length cap), (2, .slice a2 kl.length cap2), (7, .pointer (some ⟨q, 0, none⟩)), (8, .slice a8 (N8) c8), (9, u), (10, .int .i64 k)] ∧ (Wrote S D wr ∧ wr.length ≤ k ∧ D.wrote ≤ S.wrote + k ∧ ∀ o ∈ wr, o.Ok L) ∧ Sat G (row 43 4 u wr.length (wr.flatMap OpV.cells) :: row 5 1 (.slice a8 (N8) c8) (N8) (bys S.img) :: dsk q D :: L) w)
          (m := os'.length) (e₀ := [(1, .slice a os'.length cap), (2, .slice a2 kl.length cap2), (7, .pointer (some ⟨q, 0, none⟩)), (8, .slice a8 (N8) c8), (9, .slice none 0 0), (10, .int .i64 (0 : Nat))]) (by repeat (first | exact Sub.nil _ | refine Sub.cons rfl ?_))
          ⟨0, S, [], _, Nat.zero_le _, rfl, rfl, ⟨Wrote.nil hSc hSw, Nat.le_refl _, by omega, by simp⟩, hw⟩ ?_
        rintro m e w ⟨k, D, wr, u, hk, rfl, rfl, ⟨hW, hwk, hDw, hWo⟩, hw⟩
        refine x_seq ?_
        refine x_seq ?_
        refine x_region rfl ?_
        refine x_mv rfl rfl trivial rfl ?_  -- law.go:244 move t10
        refine x_mv rfl rfl trivial rfl ?_  -- law.go:244 move t1
        refine x_len rfl rfl trivial rfl U_sl_coppicelaw06_Op rfl ?_  -- law.go:244 len(t48)
        refine x_lt rfl rfl trivial rfl rfl ?_  -- law.go:244 lss[3] t47 t49
        refine xl_nil ?_
        refine x_if rfl (fun h6 => ?_) (fun h6 => ?_)
        · -- yes
          have hk' : k < os'.length := by omega
          obtain ⟨o, ho⟩ : ∃ o, os'[k]? = some o := ⟨_, List.getElem?_eq_getElem hk'⟩
          have hoo := hok o (List.mem_of_getElem? ho)
          have hob := hoo.b
          have hoz : Knows L (fun _ => Ones o.cells) := fun g w h => OpV.ones hoo h
          obtain ⟨b, f, rfl⟩ := ((hsl.of (by repeat (first | exact Suf.refl _ | apply Suf.cons))).at hw).nn (by omega)
          refine x_skip ?_
          refine x_seq ?_
          refine x_block ?_
          refine x_seq ?_
          refine x_region rfl ?_
          refine x_mv rfl rfl trivial rfl ?_  -- law.go:245 move t1
          refine x_mv rfl rfl trivial rfl ?_  -- law.go:245 move t10
          refine x_idx rfl rfl trivial U_sl_coppicelaw06_Op sz_coppicelaw06_Op rfl rfl ⟨by omega, by omega⟩ ?_  -- law.go:245 indexAddr[38] t53 [t54] 
          refine x_ld rfl rfl trivial rfl (Loads.many many_coppicelaw06_Op rfl (((hsl.of (by repeat (first | exact Suf.refl _ | apply Suf.cons))).at hw).at ho)) ?_  -- law.go:245 load[43] t55
          refine x_alloc rfl rfl trivial z_coppicelaw06_Op hw rfl (fun w b11 hw => ?_)  -- law.go:245 alloc 43
          -- law.go:245 store[43] t11 := t56
          refine x_stN (cs := o.cells) (l' := o.cells) rfl trivial rfl rfl many_coppicelaw06_Op rfl ((hoz.of (by repeat (first | exact Suf.refl _ | apply Suf.cons))).at hw) hw (by repeat (first | with_reducible exact Pick.here | apply Pick.there)) (by simp) rfl rfl (fun w hw => ?_)
          simp only [OpV.cells] at hw
          refine xl_nil ?_
          refine x_seq ?_
          refine x_draw [0, 1, 2, 3, 4, 5, 6, 7, 8, 9, 10, 11, 12] mixed (by kernel_rfl) ?_  -- region 19
          replace hw := hw.drawn (w.drawn + 1)
          refine x_fld rfl rfl trivial fo_coppicelaw06_Op_0 rfl ?_  -- law.go:246 fieldAddr[43] t11 .Kind(+0)
          refine x_ld rfl rfl trivial rfl (Loads.blk1 one_int hw (by repeat (first | with_reducible exact Pick.here | apply Pick.there)) rfl) ?_  -- law.go:246 load[3] t57
          refine x_eq rfl rfl trivial rfl rfl rfl ?_  -- law.go:246 eql[3] t58 1
          refine x_mv rfl rfl trivial rfl ?_  -- law.go:246 move t59
          refine xl_split (d := 60) rfl (fun h7 => ?_) (fun h7 => ?_)
          · -- yes
            refine x_mv rfl rfl ⟨_, rfl, rfl⟩ rfl ?_  -- law.go:246 move t7
            refine x_fld rfl rfl ⟨_, rfl, rfl⟩ fo_coppicelaw06_Op_1 rfl ?_  -- law.go:246 fieldAddr[43] t11 .I(+1)
            refine x_ld rfl rfl ⟨_, rfl, rfl⟩ rfl (Loads.blk1 one_int hw (by repeat (first | with_reducible exact Pick.here | apply Pick.there)) rfl) ?_  -- law.go:246 load[3] t62
            refine x_fld rfl rfl ⟨_, rfl, rfl⟩ fo_coppicelaw06_Op_2 rfl ?_  -- law.go:246 fieldAddr[43] t11 .B(+2)
            refine x_ld rfl rfl ⟨_, rfl, rfl⟩ rfl (Loads.blk1 one_sl_uint8 hw (by repeat (first | with_reducible exact Pick.here | apply Pick.there)) rfl) ?_  -- law.go:246 load[23] t64
            -- law.go:246 call f15 coppice/coppiceref00.CopyBytes(t65)
            refine x_callP rfl rfl ⟨_, rfl, rfl⟩ cal_ref00_CopyBytes rfl (ct_ref00_CopyBytes (l := o.bl) hw (hob.of (by repeat (first | exact Suf.refl _ | apply Suf.cons))) hoo.bl) (fun w v hw q' hq => ?_) (fun w v66 hw => ?_)
            · obtain rfl := pend_one (q0 := 6) (by kernel_rfl) hq
              exact chk_ld rfl rfl rfl (Loads.blk1 one_int hw (by repeat (first | with_reducible exact Pick.here | apply Pick.there)) rfl)
            refine x_call rfl rfl ⟨_, rfl, rfl⟩ cal_disk_Disk_Write rfl (ct_disk_Disk_Write (D := D) (p := q) (v := v66) (l := o.bl) (hw.pick (A := dsk q D) (by repeat (first | with_reducible exact Pick.here | apply Pick.there))) (rowB rfl (by repeat (first | with_reducible exact Pick.here | apply Pick.there))) hoo.bl (by omega)) (by kernel_rfl) (fun w v67 hv => ?_)  -- law.go:246 call f25 (*coppice/disk.Disk).Write(t61, t63, t66)
            obtain ⟨rfl, hw⟩ := hv
            replace hw := hw.drop (.there .here)
            have hst := hW.step o
            refine x_eq rfl rfl ⟨_, rfl, rfl⟩ rfl rfl rfl ?_  -- law.go:246 eql[26] t67 0
            refine x_pickT rfl rfl trivial rfl rfl rfl ?_  -- law.go:246 pick t60 ? t68 : False
            refine xl_nil ?_
            refine x_if rfl (fun h8 => ?_) (fun h8 => ?_)
            · -- yes
              obtain ⟨-, hW', hcw⟩ | ⟨h, -⟩ := hst
              case inr => exact absurd h8 h
              refine x_region rfl ?_
              refine x_mv rfl rfl trivial rfl ?_  -- law.go:247 move t9
              refine x_ld rfl rfl trivial rfl (Loads.blkA many_coppicelaw06_Op (l := [.int .i64 o.kind, .int .i64 o.i, o.b, o.keep]) hw (by repeat (first | with_reducible exact Pick.here | apply Pick.there)) rfl) ?_  -- law.go:247 load[43] t11
              -- law.go:247 buildSlice 38 1 [[0, 71]]
              refine x_bs1 (cs := o.cells) rfl rfl trivial U_sl_coppicelaw06_Op sz_coppicelaw06_Op zs_coppicelaw06_Op (by decide) rfl rfl rfl hw rfl (fun w b72 hw => ?_)
              -- law.go:247 append(t70, t72)
              refine x_app (m := wr.length) (k := 1) (news := o.cells) rfl rfl trivial U_sl_coppicelaw06_Op sz_coppicelaw06_Op by_coppicelaw06_Op zs_coppicelaw06_Op rfl rfl hw (by repeat (first | with_reducible exact Pick.here | apply Pick.there)) (Rd.blk0 hw (by repeat (first | with_reducible exact Pick.here | apply Pick.there))) rfl ((hoz.of (by repeat (first | exact Suf.refl _ | apply Suf.cons))).at hw) (by simp only [maxLen]; omega) (by omega) rfl (fun w v73 hw => ?_)
              refine x_as rfl rfl trivial rfl ?_  -- law.go:247 assign t73
              refine xl_nil ?_
              refine x_region rfl ?_
              refine x_mv rfl rfl trivial rfl ?_  -- law.go:244 move t10
              refine x_addi rfl rfl trivial rfl rfl (by omega) ?_  -- law.go:244 add[3] t51 1
              refine x_as rfl rfl trivial rfl ?_  -- law.go:244 assign t52
              refine xl_nil ?_
              refine ⟨os'.length - (k + 1), by omega, [(1, _), (2, _), (7, _), (8, _), (9, v73), (10, .int .i64 (k + 1 : Nat))], (by repeat (first | exact Sub.nil _ | refine Sub.cons rfl ?_)), k + 1, (D.write o.i o.bl).2, wr ++ [o], v73, by omega, rfl, rfl, ⟨hW', by simp; omega, by omega, fun x hx => ?_⟩, ?_⟩
              · rcases List.mem_append.1 hx with hx | hx
                · exact hWo x hx
                · simp at hx; subst hx; exact hoo
              · have h := hw.picks (As := [row 43 _ _ _ _, row 5 _ _ _ _, dsk q _]) (by repeat (first | exact Picks.nil | (apply Picks.cons; repeat (first | with_reducible exact Pick.here | apply Pick.there))))
                have h := (h.drop (.there (.there (.there (Pick.here (A := blk b72 _ _)))))).drop (.there (.there (.there (Pick.here (A := blk b11 _ _)))))
                rw [List.flatMap_append, List.length_append]
                simpa using h
            · -- no
              obtain ⟨h, -⟩ | ⟨-, hDD⟩ := hst
              case inl => exact absurd h h8
              rw [hDD] at hw
              refine x_skip ?_
              refine x_region rfl ?_
              refine x_mv rfl rfl trivial rfl ?_  -- law.go:244 move t10
              refine x_addi rfl rfl trivial rfl rfl (by omega) ?_  -- law.go:244 add[3] t51 1
              refine x_as rfl rfl trivial rfl ?_  -- law.go:244 assign t52
              refine xl_nil ?_
              refine ⟨os'.length - (k + 1), by omega, [(1, _), (2, _), (7, _), (8, _), (9, _), (10, .int .i64 (k + 1 : Nat))], (by repeat (first | exact Sub.nil _ | refine Sub.cons rfl ?_)), k + 1, D, wr, u, by omega, rfl, rfl, ⟨hW, by omega, by omega, hWo⟩, ?_⟩
              have h := hw.picks (As := [row 43 _ _ _ _, row 5 _ _ _ _, dsk q _]) (by repeat (first | exact Picks.nil | (apply Picks.cons; repeat (first | with_reducible exact Pick.here | apply Pick.there))))
              exact h.drop (.there (.there (.there (Pick.here (A := blk b11 _ _)))))
          · -- no
            refine xl_no rfl rfl rfl rfl rfl rfl ?_  -- passed over: move t7
            refine xl_no rfl rfl rfl rfl rfl rfl ?_  -- passed over: fieldAddr[43] t11 .I(+1)
            refine xl_no rfl rfl rfl rfl rfl rfl ?_  -- passed over: load[3] t62
            refine xl_no rfl rfl rfl rfl rfl rfl ?_  -- passed over: fieldAddr[43] t11 .B(+2)
            refine xl_no rfl rfl rfl rfl rfl rfl ?_  -- passed over: load[23] t64
            refine xl_no rfl rfl rfl rfl rfl rfl ?_  -- passed over: call f15 coppice/coppiceref00.CopyBytes(t65)
            refine xl_no rfl rfl rfl rfl rfl rfl ?_  -- passed over: call f25 (*coppice/disk.Disk).Write(t61, t63, t66)
            refine xl_no rfl rfl rfl rfl rfl rfl ?_  -- passed over: eql[26] t67 0
            refine x_pickF rfl rfl trivial rfl rfl rfl ?_  -- law.go:246 pick t60 ? t68 : False
            refine xl_nil ?_
            refine x_cond_false rfl ?_
            refine x_skip ?_
            refine x_region rfl ?_
            refine x_mv rfl rfl trivial rfl ?_  -- law.go:244 move t10
            refine x_addi rfl rfl trivial rfl rfl (by omega) ?_  -- law.go:244 add[3] t51 1
            refine x_as rfl rfl trivial rfl ?_  -- law.go:244 assign t52
            refine xl_nil ?_
            refine ⟨os'.length - (k + 1), by omega, [(1, _), (2, _), (7, _), (8, _), (9, _), (10, .int .i64 (k + 1 : Nat))], (by repeat (first | exact Sub.nil _ | refine Sub.cons rfl ?_)), k + 1, D, wr, u, by omega, rfl, rfl, ⟨hW, by omega, by omega, hWo⟩, ?_⟩
            have h := hw.picks (As := [row 43 _ _ _ _, row 5 _ _ _ _, dsk q _]) (by repeat (first | exact Picks.nil | (apply Picks.cons; repeat (first | with_reducible exact Pick.here | apply Pick.there))))
            exact h.drop (.there (.there (.there (Pick.here (A := blk b11 _ _)))))
        · -- no
          have hkk : k = os'.length := by omega
          have hDi : D.img = S.img := by unfold Dk.img; rw [hW.lasts]
          have hDl : D.lasts.length = S.lasts.length := by rw [hW.lasts]
          have hDil : S.img.length = 512 * D.lasts.length := by rw [hDl, ← hN8]; exact hSi
          have hDws : D.ws.length = wr.length := by rw [hW.ws]; simp
          obtain ⟨a9, c9, rfl⟩ := row_form hw
          refine x_exit rfl ?_  -- exit 0
          refine x_seq ?_
          refine x_seq ?_
          refine x_region rfl ?_
          refine x_mv rfl rfl trivial rfl ?_  -- law.go:250 move t7
          refine x_call rfl rfl trivial cal_disk_Disk_Image rfl (ct_disk_Disk_Image (D := D) (p := q) (hw.pick (A := dsk q D) (by repeat (first | with_reducible exact Pick.here | apply Pick.there)))) rfl (fun w v75 hv => ?_)  -- law.go:250 call f20 (*coppice/disk.Disk).Image(t74)
          have hw := hv
          rw [hDi] at hw
          refine x_mv rfl rfl trivial rfl ?_  -- law.go:250 move t8
          refine x_call rfl rfl trivial cal_ref00_EqBytes rfl (ct_ref00_EqBytes (v := v75) (v' := .slice a8 (N8) c8) (l := S.img) (l' := S.img) hw (rowB (n := 512 * D.lasts.length) hDil (by repeat (first | with_reducible exact Pick.here | apply Pick.there))) (rowB (n := N8) hSi (by repeat (first | with_reducible exact Pick.here | apply Pick.there))) (by omega) (by omega)) rfl (fun w v77 hv => ?_)  -- law.go:250 call f19 coppice/coppiceref00.EqBytes(t75, t76)
          obtain ⟨rfl, hw⟩ := hv
          replace hw := hw.tail
          refine x_notp rfl rfl trivial rfl ?_  -- law.go:250 unOp "not" 4 77
          refine x_mv rfl rfl trivial rfl ?_  -- law.go:250 move t78
          refine xl_split (d := 79) rfl (fun h9 => ?_) (fun h9 => ?_)
          · -- yes
            exact absurd rfl h9
          · -- no
            refine x_mv rfl rfl ⟨_, rfl, rfl⟩ rfl ?_  -- law.go:250 move t7
            refine x_call rfl rfl ⟨_, rfl, rfl⟩ cal_disk_Disk_Unsynced rfl (ct_disk_Disk_Unsynced (D := D) (p := q) hw (by omega)) rfl (fun w v81 hv => ?_)  -- law.go:250 call f31 (*coppice/disk.Disk).Unsynced(t80)
            have hw := hv
            obtain ⟨a81, c81, rfl⟩ := row_form hw
            replace hw := hw.tail
            refine x_len rfl rfl ⟨_, rfl, rfl⟩ rfl U_sl_int rfl ?_  -- law.go:250 len(t81)
            refine x_mv rfl rfl ⟨_, rfl, rfl⟩ rfl ?_  -- law.go:250 move t9
            refine x_len rfl rfl ⟨_, rfl, rfl⟩ rfl U_sl_coppicelaw06_Op rfl ?_  -- law.go:250 len(t83)
            refine x_ne rfl rfl ⟨_, rfl, rfl⟩ rfl rfl rfl ?_  -- law.go:250 neq[3] t82 t84
            refine x_pickF rfl rfl trivial rfl rfl rfl ?_  -- law.go:250 pick t79 ? True : t85
            refine xl_nil ?_
            refine x_if rfl (fun h10 => ?_) (fun h10 => ?_)
            · -- yes
              exact absurd (by rw [hDws]) h10
            · -- no
              refine x_skip ?_
              refine x_seq ?_
              refine x_region rfl ?_
              refine x_mv rfl rfl trivial rfl ?_  -- law.go:253 move t7
              refine x_call rfl rfl trivial cal_disk_Disk_Off rfl (ct_Off (D := D) (p := q) hw) rfl (fun w v88 hv => ?_)  -- law.go:253 call f33 (*coppice/disk.Disk).Off(t87)
              obtain ⟨-, hw⟩ := hv
              refine xl_nil ?_
              refine x_seq ?_
              refine x_region rfl ?_
              refine x_mv rfl rfl trivial rfl ?_  -- law.go:254 move t7
              refine x_mv rfl rfl trivial rfl ?_  -- law.go:254 move t2
              refine x_call rfl rfl trivial cal_law06_copyBools rfl (ct_law06_copyBools (kl := kl) hw (kk.of (by repeat (first | exact Suf.refl _ | apply Suf.cons))) hkl) rfl (fun w v91 hv => ?_)  -- law.go:254 call f35 coppice/coppicelaw06.copyBools(t90)
              have hw := hv
              refine x_call rfl rfl trivial cal_disk_Disk_On rfl (ct_disk_Disk_On (D := D.failed) (kl := kl) (p := q) (hw.pick (A := dsk q D.failed) (by repeat (first | with_reducible exact Pick.here | apply Pick.there))) (rowV rfl (by repeat (first | with_reducible exact Pick.here | apply Pick.there))) (by show D.wrote < _; omega)) rfl (fun w v92 hv => ?_)  -- law.go:254 call f34 (*coppice/disk.Disk).On(t89, t91)
              obtain ⟨-, hw⟩ := hv
              rw [kept_eq] at hw
              replace hw := hw.drop (.there .here)
              have hKok := (dsk_open hw).1
              obtain ⟨-, b8, cur, rfl, hc8, hm8, hcl8, hw⟩ := row_some (hw.pick (A := row 5 1 (.slice a8 _ c8) _ _) (by repeat (first | with_reducible exact Pick.here | apply Pick.there))) (by omega)
              refine xl_nil ?_
              refine x_join (fun e w => e = [(7, .pointer (some ⟨q, 0, none⟩)), (8, .slice (some ⟨b8, 0, none⟩) (N8) c8)] ∧ Sat G (blk b8 (bys (D.kept kl).img ++ cur) 5 :: dsk q (D.kept kl) :: L) w) ?_ ?_
              · -- as far as J36
                refine x_seq ?_
                refine x_region rfl ?_
                refine x_as rfl rfl trivial rfl ?_  -- law.go:255 assign 0
                refine xl_nil ?_
                refine x_block ?_
                refine x_loop (fun m e w => ∃ (k : Nat) (B : List Bys), k ≤ wr.length ∧ k ≤ kl.length ∧ m = wr.length - k ∧ e = [(2, .slice a2 kl.length cap2), (7, .pointer (some ⟨q, 0, none⟩)), (8, .slice (some ⟨b8, 0, none⟩) (N8) c8), (9, .slice a9 wr.length c9), (12, .int .i64 k)] ∧ B = settleL (keepQ kl) (D.ws.take k) 0 S.lasts ∧ Sat G (blk b8 (bys B.flatten ++ cur) 5 :: dsk q (D.kept kl) :: row 43 4 (.slice a9 wr.length c9) wr.length (wr.flatMap OpV.cells) :: L) w)
                  (m := wr.length) (e₀ := [(2, .slice a2 kl.length cap2), (7, .pointer (some ⟨q, 0, none⟩)), (8, .slice (some ⟨b8, 0, none⟩) (N8) c8), (9, .slice a9 wr.length c9), (12, .int .i64 (0 : Nat))]) (by repeat (first | exact Sub.nil _ | refine Sub.cons rfl ?_))
                  ⟨0, S.lasts, Nat.zero_le _, Nat.zero_le _, rfl, rfl, rfl, hw⟩ ?_
                rintro m e w ⟨j, B, hj1, hj2, rfl, rfl, hB, hw⟩
                have hBl : B.length = S.lasts.length := by rw [hB, settleL_length]
                have hBb : ∀ c ∈ B, c.length = 512 := by
                  rw [hB]
                  exact settleL_blk _ _ _ _ (fun x hx => by
                    have h := List.mem_of_mem_take hx
                    rw [hW.ws] at h
                    obtain ⟨o, ho, rfl⟩ := List.mem_map.1 h
                    exact (hW.each o ho).2) hSok.blk
                have hBf : B.flatten.length = N8 := by rw [flat_len512 B hBb, hBl, hN8]
                refine x_seq ?_
                refine x_seq ?_
                refine x_region rfl ?_
                refine x_mv rfl rfl trivial rfl ?_  -- law.go:255 move t12
                refine x_mv rfl rfl trivial rfl ?_  -- law.go:255 move t9
                refine x_len rfl rfl trivial rfl U_sl_coppicelaw06_Op rfl ?_  -- law.go:255 len(t94)
                refine x_lt rfl rfl trivial rfl rfl ?_  -- law.go:255 lss[3] t93 t95
                refine x_mv rfl rfl trivial rfl ?_  -- law.go:255 move t96
                refine xl_split (d := 97) rfl (fun h11 => ?_) (fun h11 => ?_)
                · -- yes
                  refine x_mv rfl rfl ⟨_, rfl, rfl⟩ rfl ?_  -- law.go:255 move t12
                  refine x_mv rfl rfl ⟨_, rfl, rfl⟩ rfl ?_  -- law.go:255 move t2
                  refine x_len rfl rfl ⟨_, rfl, rfl⟩ rfl U_sl_bool rfl ?_  -- law.go:255 len(t99)
                  refine x_lt rfl rfl ⟨_, rfl, rfl⟩ rfl rfl ?_  -- law.go:255 lss[3] t98 t100
                  refine x_pickT rfl rfl trivial rfl rfl rfl ?_  -- law.go:255 pick t97 ? t101 : False
                  refine xl_nil ?_
                  refine x_if rfl (fun h12 => ?_) (fun h12 => ?_)
                  · -- yes
                    have hj1' : j < wr.length := by omega
                    have hj2' : j < kl.length := by omega
                    obtain ⟨o, ho⟩ : ∃ o, wr[j]? = some o := ⟨_, List.getElem?_eq_getElem hj1'⟩
                    have hmem := List.mem_of_getElem? ho
                    have hea := hW.each o hmem
                    have hoo := hWo o hmem
                    have hob := hoo.b
                    have hws1 : D.ws.take (j + 1) = D.ws.take j ++ [(o.i.toNat, o.bl)] := by rw [hW.ws, List.take_add_one, List.getElem?_map, ho]; rfl
                    have hwsl : (D.ws.take j).length = j := by rw [List.length_take]; omega
                    obtain ⟨b2, o2, rfl⟩ := ((kk.of (by repeat (first | exact Suf.refl _ | apply Suf.cons))).at hw).nn (by rw [bools_length]; omega)
                    have hget : (bools kl)[(j : Int).toNat]? = some (.bool (kl.getD j false)) := by simp [bools, hj2']
                    refine x_skip ?_
                    refine x_seq ?_
                    refine x_block ?_
                    refine x_seq ?_
                    refine x_region rfl ?_
                    refine x_mv rfl rfl trivial rfl ?_  -- law.go:256 move t2
                    refine x_mv rfl rfl trivial rfl ?_  -- law.go:256 move t12
                    refine x_idx1 rfl rfl trivial U_sl_bool sz_bool rfl rfl ⟨by omega, by omega⟩ ?_  -- law.go:256 indexAddr[41] t105 [t106] 
                    refine x_ld rfl rfl trivial rfl (Loads.one one_bool (((kk.of (by repeat (first | exact Suf.refl _ | apply Suf.cons))).at hw).at hget)) ?_  -- law.go:256 load[4] t107
                    refine xl_nil ?_
                    refine x_cond rfl (fun h13 => ?_) (fun h13 => ?_)
                    · -- yes
                      obtain ⟨hfl9, b9, cur9, rfl, hc9, hm9, hcl9, hw⟩ := row_some (hw.pick (A := row 43 _ _ _ _) (by repeat (first | with_reducible exact Pick.here | apply Pick.there))) (by omega)
                      have hch := flat_chunk (f := OpV.cells) (z := 4) (cur := cur9) o (fun _ _ => rfl) hj1'
                      have hgo : wr.getD j o = o := by rw [List.getD_eq_getElem?_getD, ho]; rfl
                      rw [hgo] at hch
                      have hcell : ∀ (i : Nat) (v : Value), o.cells[i]? = some v → (wr.flatMap OpV.cells ++ cur9)[0 + (j : Int).toNat * 4 + i]? = some v := fun i v h => by
                        rw [← hch, List.getElem?_take] at h
                        split at h
                        · rw [List.getElem?_drop] at h; rw [Int.toNat_natCast, Nat.zero_add]; exact h
                        · cases h
                      obtain ⟨ab, cb, hobf⟩ := ((hob.of (by repeat (first | exact Suf.refl _ | apply Suf.cons))).at hw).form
                      have hob2 : Knows L (SlB (.slice ab o.bl.length cb) o.bl) := hobf ▸ hob
                      obtain ⟨bb, fb, rfl⟩ := ((hob2.of (by repeat (first | exact Suf.refl _ | apply Suf.cons))).at hw).nn (by omega)
                      have hXl : (bys B.flatten).length = N8 := by rw [bys_length]; exact hBf
                      have hol : (bys o.bl).length = 512 := by rw [bys_length]; exact hea.2
                      have hc1 := hcell 1 (.int .i64 o.i) rfl
                      have hc2 := hcell 2 (.slice (some ⟨bb, fb, none⟩) o.bl.length cb) (by rw [← hobf]; rfl)
                      refine x_seq ?_
                      refine x_region rfl ?_
                      refine x_mv rfl rfl trivial rfl ?_  -- law.go:257 move t9
                      refine x_mv rfl rfl trivial rfl ?_  -- law.go:257 move t12
                      refine x_idx rfl rfl trivial U_sl_coppicelaw06_Op sz_coppicelaw06_Op rfl rfl ⟨by omega, by omega⟩ ?_  -- law.go:257 indexAddr[38] t109 [t110] 
                      refine x_fldk rfl rfl trivial fo_coppicelaw06_Op_1 rfl ?_  -- law.go:257 fieldAddr[43] t111 .I(+1)
                      refine x_ld rfl rfl trivial rfl (Loads.blk1 one_int hw (by repeat (first | with_reducible exact Pick.here | apply Pick.there)) hc1) ?_  -- law.go:257 load[3] t112
                      refine x_muli rfl rfl trivial rfl rfl (by omega) ?_  -- law.go:257 mul[3] t113 512
                      refine x_as rfl rfl trivial rfl ?_  -- law.go:257 assign t114
                      refine xl_nil ?_
                      refine x_seq ?_
                      refine x_seq ?_
                      refine x_region rfl ?_
                      refine x_mv rfl rfl trivial rfl ?_  -- law.go:258 move t13
                      refine x_lt rfl rfl trivial rfl rfl ?_  -- law.go:258 lss[3] t115 0
                      refine x_mv rfl rfl trivial rfl ?_  -- law.go:258 move t116
                      refine xl_split (d := 117) rfl (fun h14 => ?_) (fun h14 => ?_)
                      · -- yes
                        omega
                      · -- no
                        refine x_mv rfl rfl ⟨_, rfl, rfl⟩ rfl ?_  -- law.go:258 move t13
                        refine x_addi rfl rfl ⟨_, rfl, rfl⟩ rfl rfl (by omega) ?_  -- law.go:258 add[3] t118 512
                        refine x_mv rfl rfl ⟨_, rfl, rfl⟩ rfl ?_  -- law.go:258 move t8
                        refine x_len rfl rfl ⟨_, rfl, rfl⟩ rfl U_sl_uint8 rfl ?_  -- law.go:258 len(t120)
                        refine x_gt rfl rfl ⟨_, rfl, rfl⟩ rfl rfl ?_  -- law.go:258 gtr[3] t119 t121
                        refine x_pickF rfl rfl trivial rfl rfl rfl ?_  -- law.go:258 pick t117 ? True : t122
                        refine x_mv rfl rfl trivial rfl ?_  -- law.go:258 move t123
                        refine xl_split (d := 124) rfl (fun h15 => ?_) (fun h15 => ?_)
                        · -- yes
                          omega
                        · -- no
                          refine x_mv rfl rfl ⟨_, rfl, rfl⟩ rfl ?_  -- law.go:258 move t9
                          refine x_mv rfl rfl ⟨_, rfl, rfl⟩ rfl ?_  -- law.go:258 move t12
                          refine x_idx rfl rfl ⟨_, rfl, rfl⟩ U_sl_coppicelaw06_Op sz_coppicelaw06_Op rfl rfl ⟨by omega, by omega⟩ ?_  -- law.go:258 indexAddr[38] t125 [t126] 
                          refine x_fldk rfl rfl ⟨_, rfl, rfl⟩ fo_coppicelaw06_Op_2 rfl ?_  -- law.go:258 fieldAddr[43] t127 .B(+2)
                          refine x_ld rfl rfl ⟨_, rfl, rfl⟩ rfl (Loads.blk1 one_sl_uint8 hw (by repeat (first | with_reducible exact Pick.here | apply Pick.there)) hc2) ?_  -- law.go:258 load[23] t128
                          refine x_len rfl rfl ⟨_, rfl, rfl⟩ rfl U_sl_uint8 rfl ?_  -- law.go:258 len(t129)
                          refine x_ne rfl rfl ⟨_, rfl, rfl⟩ rfl rfl rfl ?_  -- law.go:258 neq[3] t130 512
                          refine x_pickF rfl rfl trivial rfl rfl rfl ?_  -- law.go:258 pick t124 ? True : t131
                          refine xl_nil ?_
                          refine x_if rfl (fun h16 => ?_) (fun h16 => ?_)
                          · -- yes
                            omega
                          · -- no
                            refine x_skip ?_
                            refine x_seq ?_
                            refine x_region rfl ?_
                            refine x_as rfl rfl trivial rfl ?_  -- law.go:261 assign 0
                            refine xl_nil ?_
                            refine x_block ?_
                            refine x_loop (fun m e w => ∃ (i : Nat), i ≤ 512 ∧ m = 512 - i ∧ e = [(2, .slice (some ⟨b2, o2, none⟩) kl.length cap2), (7, .pointer (some ⟨q, 0, none⟩)), (8, .slice (some ⟨b8, 0, none⟩) (N8) c8), (9, .slice (some ⟨b9, 0, none⟩) wr.length c9), (12, .int .i64 j), (13, .int .i64 (o.i * 512)), (14, .int .i64 i)] ∧ Sat G (blk b9 (wr.flatMap OpV.cells ++ cur9) 43 :: blk b8 (((bys B.flatten).take (o.i.toNat * 512) ++ (bys o.bl).take i ++ (bys B.flatten).drop (o.i.toNat * 512 + i)) ++ cur) 5 :: dsk q (D.kept kl) :: L) w)
                              (m := 512) (e₀ := [(2, .slice (some ⟨b2, o2, none⟩) kl.length cap2), (7, .pointer (some ⟨q, 0, none⟩)), (8, .slice (some ⟨b8, 0, none⟩) (N8) c8), (9, .slice (some ⟨b9, 0, none⟩) wr.length c9), (12, .int .i64 j), (13, .int .i64 (o.i * 512)), (14, .int .i64 (0 : Nat))]) (by repeat (first | exact Sub.nil _ | refine Sub.cons rfl ?_))
                              ⟨0, Nat.zero_le _, rfl, rfl, by simpa using hw⟩ ?_
                            rintro m e w ⟨i, hi, rfl, rfl, hw⟩
                            refine x_seq ?_
                            refine x_seq ?_
                            refine x_region rfl ?_
                            refine x_mv rfl rfl trivial rfl ?_  -- law.go:261 move t14
                            refine x_lt rfl rfl trivial rfl rfl ?_  -- law.go:261 lss[3] t133 512
                            refine xl_nil ?_
                            refine x_if rfl (fun h17 => ?_) (fun h17 => ?_)
                            · -- yes
                              refine x_skip ?_
                              refine x_seq ?_
                              refine x_block ?_
                              refine x_region rfl ?_
                              refine x_mv rfl rfl trivial rfl ?_  -- law.go:262 move t8
                              refine x_mv rfl rfl trivial rfl ?_  -- law.go:262 move t13
                              refine x_mv rfl rfl trivial rfl ?_  -- law.go:262 move t14
                              refine x_addi rfl rfl trivial rfl rfl (by omega) ?_  -- law.go:262 add[3] t138 t139
                              refine x_mv rfl rfl trivial rfl ?_  -- law.go:262 move t9
                              refine x_mv rfl rfl trivial rfl ?_  -- law.go:262 move t12
                              refine x_idx rfl rfl trivial U_sl_coppicelaw06_Op sz_coppicelaw06_Op rfl rfl ⟨by omega, by omega⟩ ?_  -- law.go:262 indexAddr[38] t141 [t142] 
                              refine x_fldk rfl rfl trivial fo_coppicelaw06_Op_2 rfl ?_  -- law.go:262 fieldAddr[43] t143 .B(+2)
                              refine x_ld rfl rfl trivial rfl (Loads.blk1 one_sl_uint8 hw (by repeat (first | with_reducible exact Pick.here | apply Pick.there)) hc2) ?_  -- law.go:262 load[23] t144
                              refine x_mv rfl rfl trivial rfl ?_  -- law.go:262 move t14
                              refine x_idx1 rfl rfl trivial U_sl_uint8 sz_uint8 rfl rfl ⟨by omega, by omega⟩ ?_  -- law.go:262 indexAddr[23] t145 [t146] 
                              refine x_ld rfl rfl trivial rfl (Loads.one one_uint8 (((hob2.of (by repeat (first | exact Suf.refl _ | apply Suf.cons))).at hw).at ⟨by omega, by omega⟩)) ?_  -- law.go:262 load[5] t147
                              refine x_idx1 rfl rfl trivial U_sl_uint8 sz_uint8 rfl rfl ⟨by omega, by omega⟩ ?_  -- law.go:262 indexAddr[23] t137 [t140] 
                              -- law.go:262 store[5] t149 := t148
                              refine x_st1 (l' := ((bys B.flatten).take (o.i.toNat * 512) ++ (bys o.bl).take (i + 1) ++ (bys B.flatten).drop (o.i.toNat * 512 + (i + 1))) ++ cur) rfl trivial rfl rfl one_uint8 rfl hw (by repeat (first | with_reducible exact Pick.here | apply Pick.there)) (by simp only [List.length_append, List.length_take, List.length_drop, hXl, hol, Nat.blt_eq]; omega) (by
                                have hix : 0 + (o.i * 512 + (i : Int)).toNat = o.i.toNat * 512 + i := by omega
                                rw [hix, Int.toNat_natCast, List.set_append_left _ _ (by simp only [List.length_append, List.length_take, List.length_drop, hXl, hol]; omega), put_next (x := bys B.flatten) (c := bys o.bl) (by omega) (by omega) _ (bys_get (by omega))]) rfl (fun w hw => ?_)
                              refine xl_nil ?_
                              refine x_region rfl ?_
                              refine x_mv rfl rfl trivial rfl ?_  -- law.go:261 move t14
                              refine x_addi rfl rfl trivial rfl rfl (by omega) ?_  -- law.go:261 add[3] t135 1
                              refine x_as rfl rfl trivial rfl ?_  -- law.go:261 assign t136
                              refine xl_nil ?_
                              exact ⟨512 - (i + 1), by omega, [(2, _), (7, _), (8, _), (9, _), (12, _), (13, _), (14, .int .i64 (i + 1 : Nat))], (by repeat (first | exact Sub.nil _ | refine Sub.cons rfl ?_)), i + 1, by omega, rfl, rfl, hw.pick (A := blk b9 _ _) (by repeat (first | with_reducible exact Pick.here | apply Pick.there))⟩
                            · -- no
                              refine x_exit rfl ?_  -- exit 4
                              refine x_region rfl ?_
                              refine x_mv rfl rfl trivial rfl ?_  -- law.go:255 move t12
                              refine x_addi rfl rfl trivial rfl rfl (by omega) ?_  -- law.go:255 add[3] t103 1
                              refine x_as rfl rfl trivial rfl ?_  -- law.go:255 assign t104
                              refine xl_nil ?_
                              have hi' : i = 512 := by omega
                              subst hi'
                              have hset : (bys B.flatten).take (o.i.toNat * 512) ++ (bys o.bl).take 512 ++ (bys B.flatten).drop (o.i.toNat * 512 + 512) = bys (B.set o.i.toNat o.bl).flatten := by
                                rw [← flat_set B o.i.toNat o.bl hBb (by omega), List.take_of_length_le (l := bys o.bl) (by omega), bys_append, bys_append, bys_take, bys_drop, Nat.mul_comm]
                              rw [hset] at hw
                              have hB' : B.set o.i.toNat o.bl = settleL (keepQ kl) (D.ws.take (j + 1)) 0 S.lasts := by
                                rw [hws1, settleL_snoc, hwsl, Nat.zero_add, if_pos (by simpa [keepQ] using h13), ← hB]
                              have hw := row_mk hw hfl9 hc9 hm9 hcl9
                              exact ⟨wr.length - (j + 1), by omega, [(2, _), (7, _), (8, _), (9, _), (12, .int .i64 (j + 1 : Nat))], (by repeat (first | exact Sub.nil _ | refine Sub.cons rfl ?_)), j + 1, _, by omega, by omega, rfl, rfl, hB', hw.picks (As := [blk b8 _ _, dsk q _, row _ _ _ _ _]) (by repeat (first | exact Picks.nil | (apply Picks.cons; repeat (first | with_reducible exact Pick.here | apply Pick.there))))⟩
                    · -- no
                      refine x_skip ?_
                      refine x_region rfl ?_
                      refine x_mv rfl rfl trivial rfl ?_  -- law.go:255 move t12
                      refine x_addi rfl rfl trivial rfl rfl (by omega) ?_  -- law.go:255 add[3] t103 1
                      refine x_as rfl rfl trivial rfl ?_  -- law.go:255 assign t104
                      refine xl_nil ?_
                      have hB' : B = settleL (keepQ kl) (D.ws.take (j + 1)) 0 S.lasts := by
                        rw [hws1, settleL_snoc, hwsl, Nat.zero_add, if_neg (by simpa [keepQ] using h13), ← hB]
                      exact ⟨wr.length - (j + 1), by omega, [(2, _), (7, _), (8, _), (9, _), (12, .int .i64 (j + 1 : Nat))], (by repeat (first | exact Sub.nil _ | refine Sub.cons rfl ?_)), j + 1, _, by omega, by omega, rfl, rfl, hB', hw⟩
                  · -- no
                    refine x_exit rfl ?_  -- exit 2
                    have hBe : B = (D.kept kl).lasts := by
                      show B = settleL (keepQ kl) D.ws 0 D.lasts
                      rw [hB, hW.lasts]
                      exact settle_prefix kl D.ws S.lasts (by omega)
                    refine ⟨[(7, _), (8, _)], (by repeat (first | exact Sub.nil _ | refine Sub.cons rfl ?_)), rfl, ?_⟩
                    rw [show (D.kept kl).img = B.flatten by unfold Dk.img; rw [hBe]]
                    exact (hw.pick (A := row 43 _ _ _ _) (by repeat (first | with_reducible exact Pick.here | apply Pick.there))).tail
                · -- no
                  refine xl_no rfl rfl rfl rfl rfl rfl ?_  -- passed over: move t12
                  refine xl_no rfl rfl rfl rfl rfl rfl ?_  -- passed over: move t2
                  refine xl_no rfl rfl rfl rfl rfl rfl ?_  -- passed over: len(t99)
                  refine xl_no rfl rfl rfl rfl rfl rfl ?_  -- passed over: lss[3] t98 t100
                  refine x_pickF rfl rfl trivial rfl rfl rfl ?_  -- law.go:255 pick t97 ? t101 : False
                  refine xl_nil ?_
                  refine x_cond_false rfl ?_
                  refine x_exit rfl ?_  -- exit 2
                  have hBe : B = (D.kept kl).lasts := by
                    show B = settleL (keepQ kl) D.ws 0 D.lasts
                    rw [hB, hW.lasts]
                    exact settle_prefix kl D.ws S.lasts (by omega)
                  refine ⟨[(7, _), (8, _)], (by repeat (first | exact Sub.nil _ | refine Sub.cons rfl ?_)), rfl, ?_⟩
                  rw [show (D.kept kl).img = B.flatten by unfold Dk.img; rw [hBe]]
                  exact (hw.pick (A := row 43 _ _ _ _) (by repeat (first | with_reducible exact Pick.here | apply Pick.there))).tail
              · -- from J36
                clear hw
                rintro e w ⟨rfl, hw⟩
                have hKi := hKok.img
                have hKl : (D.kept kl).lasts.length = S.lasts.length := by show (settleL _ _ _ _).length = _; rw [settleL_length]; exact hDl
                have hKw : (D.kept kl).wholeX = (D.kept kl).img := by
                  simp only [Dk.wholeX, Dk.kept, if_true]; exact whole_nows (D := D.kept kl) rfl
                have hKwr : (D.kept kl).wrote = D.wrote := rfl
                have hKws : (D.kept kl).ws = [] := rfl
                have hKon : (D.kept kl).on = true := rfl
                generalize D.kept kl = K at hw hKok hKi hKl hKw hKwr hKws hKon
                have hw := row_mk (z := 1) (m := N8) hw (by rw [bys_length]; omega) hc8 hm8 (by rw [List.length_append, bys_length]; rw [List.length_append, bys_length] at hcl8; omega)
                refine x_seq ?_
                refine x_region rfl ?_
                refine x_mv rfl rfl trivial rfl ?_  -- law.go:266 move t7
                refine x_call rfl rfl trivial cal_disk_Disk_IsOn rfl (ct_disk_Disk_IsOn (D := K) (p := q) (hw.pick (A := dsk q K) (by repeat (first | with_reducible exact Pick.here | apply Pick.there)))) rfl (fun w v151 hv => ?_)  -- law.go:266 call f27 (*coppice/disk.Disk).IsOn(t150)
                obtain ⟨rfl, hw⟩ := hv
                rw [hKon]
                refine x_mv rfl rfl trivial rfl ?_  -- law.go:266 move t151
                refine x_mv rfl rfl ⟨_, rfl, rfl⟩ rfl ?_  -- law.go:266 move t7
                refine x_call rfl rfl ⟨_, rfl, rfl⟩ cal_disk_Disk_Image rfl (ct_disk_Disk_Image (D := K) (p := q) hw) rfl (fun w v154 hv => ?_)  -- law.go:266 call f20 (*coppice/disk.Disk).Image(t153)
                have hw := hv
                refine x_mv rfl rfl ⟨_, rfl, rfl⟩ rfl ?_  -- law.go:266 move t8
                refine x_call rfl rfl ⟨_, rfl, rfl⟩ cal_ref00_EqBytes rfl (ct_ref00_EqBytes (v := v154) (v' := .slice (some ⟨b8, 0, none⟩) (N8) c8) (l := K.img) (l' := K.img) hw (rowB (n := 512 * K.lasts.length) hKi (by repeat (first | with_reducible exact Pick.here | apply Pick.there))) (rowB (n := N8) (by rw [hKi, hKl, hN8]) (by repeat (first | with_reducible exact Pick.here | apply Pick.there))) (by omega) (by omega)) rfl (fun w v156 hv => ?_)  -- law.go:266 call f19 coppice/coppiceref00.EqBytes(t154, t155)
                obtain ⟨rfl, hw⟩ := hv
                refine x_pickT rfl rfl trivial rfl rfl rfl ?_  -- law.go:266 pick t152 ? t156 : False
                refine x_mv rfl rfl trivial rfl ?_  -- law.go:266 move t157
                refine xl_split (d := 158) rfl (fun h19 => ?_) (fun h19 => ?_)
                · -- yes
                  refine x_mv rfl rfl ⟨_, rfl, rfl⟩ rfl ?_  -- law.go:266 move t7
                  refine x_call rfl rfl ⟨_, rfl, rfl⟩ cal_law06_whole rfl (ct_whole (D := K) (p := q) (hw.pick (A := dsk q K) (by repeat (first | with_reducible exact Pick.here | apply Pick.there)))) rfl (fun w v160 hv => ?_)  -- law.go:266 call f21 coppice/coppicelaw06.whole(t159)
                  have hw := hv
                  rw [hKw] at hw
                  refine x_mv rfl rfl ⟨_, rfl, rfl⟩ rfl ?_  -- law.go:266 move t8
                  refine x_call rfl rfl ⟨_, rfl, rfl⟩ cal_ref00_EqBytes rfl (ct_ref00_EqBytes (v := v160) (v' := .slice (some ⟨b8, 0, none⟩) (N8) c8) (l := K.img) (l' := K.img) hw (rowB (n := K.img.length) rfl (by repeat (first | with_reducible exact Pick.here | apply Pick.there))) (rowB (n := N8) (by rw [hKi, hKl, hN8]) (by repeat (first | with_reducible exact Pick.here | apply Pick.there))) (by omega) (by omega)) rfl (fun w v162 hv => ?_)  -- law.go:266 call f19 coppice/coppiceref00.EqBytes(t160, t161)
                  obtain ⟨rfl, hw⟩ := hv
                  refine x_pickT rfl rfl trivial rfl rfl rfl ?_  -- law.go:266 pick t158 ? t162 : False
                  refine x_mv rfl rfl trivial rfl ?_  -- law.go:266 move t163
                  refine xl_split (d := 164) rfl (fun h20 => ?_) (fun h20 => ?_)
                  · -- yes
                    refine x_mv rfl rfl ⟨_, rfl, rfl⟩ rfl ?_  -- law.go:266 move t7
                    refine x_call rfl rfl ⟨_, rfl, rfl⟩ cal_disk_Disk_Unsynced rfl (ct_disk_Disk_Unsynced (D := K) (p := q) (hw.pick (A := dsk q K) (by repeat (first | with_reducible exact Pick.here | apply Pick.there))) (by omega)) rfl (fun w v166 hv => ?_)  -- law.go:266 call f31 (*coppice/disk.Disk).Unsynced(t165)
                    have hw := hv
                    obtain ⟨a166, c166, rfl⟩ := row_form hw
                    rw [hKws]
                    refine x_len rfl rfl ⟨_, rfl, rfl⟩ rfl U_sl_int rfl ?_  -- law.go:266 len(t166)
                    refine x_eq rfl rfl ⟨_, rfl, rfl⟩ rfl rfl rfl ?_  -- law.go:266 eql[3] t167 0
                    refine x_pickT rfl rfl trivial rfl rfl rfl ?_  -- law.go:266 pick t164 ? t168 : False
                    refine x_as rfl rfl trivial rfl ?_  -- law.go:266 assign t169
                    refine xl_nil ?_
                    refine x_ret ?_
                    exact end1 rfl rfl ⟨rfl, (by repeat (first | exact hw | replace hw := hw.tail))⟩
                  · -- no
                    exact absurd rfl h20
                · -- no
                  exact absurd rfl h19

theorem ct_law06_DiskKeeps_nil {n : Int} {sv v s : Value} {l : Bys} {os : List OpV} {kl : List Bool} (hw : Sat G L w) (ka : Knows L (SlB sv l)) (hll : l.length ≤ 140737488355328) (ko : Script L v os) (hD : startD n l = none) :
    Calls Try.prog 12 #[.agg #[.int .i64 n, sv], v, s] w (Ret fun r w' => r = .bool true ∧ Sat G L w') := by
  obtain ⟨a, cap, rfl, hcap, hasp⟩ := (ko.sl.at hw).form
  refine calls_of_x (args := [_, _, _]) func_law06_DiskKeeps rfl nt_law06_DiskKeeps rfl ?_
  refine x_seq ?_
  refine x_region rfl ?_
  refine x_box rfl rfl trivial rfl rfl hw rfl (fun w b3 hw => ?_)  -- law.go:225 box[37] t0
  refine x_as rfl rfl trivial rfl ?_  -- law.go:225 assign False
  refine xl_nil ?_
  refine x_seq ?_
  refine x_region rfl ?_
  refine x_mv rfl rfl trivial rfl ?_  -- law.go:226 move t1
  refine x_mv rfl rfl trivial rfl ?_  -- law.go:226 move t1
  refine x_len rfl rfl trivial rfl U_sl_coppicelaw06_Op rfl ?_  -- law.go:226 len(t16)
  -- law.go:226 min(t17, 60)
  refine x_min2 rfl rfl trivial rfl rfl ?_
  -- law.go:226 slice[38] t15 [-:t18:-]
  refine x_cutH rfl rfl trivial U_sl_coppicelaw06_Op szs_coppicelaw06_Op rfl hasp rfl ⟨by omega, by omega⟩ ?_
  refine x_as rfl rfl trivial rfl ?_  -- law.go:226 assign t19
  refine xl_nil ?_
  refine x_seq ?_
  refine x_seq ?_
  refine x_region rfl ?_
  refine x_call rfl rfl trivial cal_law06_works rfl (ct_law06_works hw) rfl (fun w v20 hv => ?_)  -- law.go:227 call f18 coppice/coppicelaw06.works()
  obtain ⟨rfl, hw⟩ := hv
  -- law.go:227 unOp "not" 4 20
  refine x_not rfl rfl trivial rfl ?_
  refine xl_nil ?_
  refine x_cond_false rfl ?_
  refine x_skip ?_
  refine x_seq ?_
  refine x_region rfl ?_
  refine x_ld rfl rfl trivial rfl (Loads.blkA many_coppicelaw06_Start hw (by repeat (first | with_reducible exact Pick.here | apply Pick.there)) (by simp)) ?_  -- law.go:230 load[37] t3
  refine x_call rfl rfl trivial cal_law06_started rfl (ct_law06_started (n := n) (l := l) hw (ka.of (by repeat (first | exact Suf.refl _ | apply Suf.cons))) hll) rfl (fun w v23 hv => ?_)  -- law.go:230 call f22 coppice/coppicelaw06.started(t22)
  obtain ⟨-, rfl, hw⟩ | ⟨D, q, h1, -, -⟩ := hv
  case inr => rw [hD] at h1; cases h1
  refine x_as rfl rfl trivial rfl ?_  -- law.go:230 assign t23
  refine xl_nil ?_
  refine x_seq ?_
  refine x_seq ?_
  refine x_region rfl ?_
  refine x_mv rfl rfl trivial rfl ?_  -- law.go:231 move t7
  refine x_eqnil rfl rfl trivial rfl U_p_disk_Disk rfl ?_  -- law.go:231 eql[25] t24 {'nilptr': 1}
  refine xl_nil ?_
  refine x_cond_true rfl ?_
  refine x_seq ?_
  refine x_region rfl ?_
  refine x_as rfl rfl trivial rfl ?_  -- law.go:232 assign True
  refine xl_nil ?_
  refine x_ret ?_
  exact end1 rfl rfl ⟨rfl, hw.tail⟩

theorem ct_law06_DiskKeeps {n : Int} {sv v s : Value} {l : Bys} {os : List OpV} {kl : List Bool} (hw : Sat G L w) (ka : Knows L (SlB sv l)) (hll : l.length ≤ 140737488355328) (ko : Script L v os) (kk : Knows L (SlV s (bools kl))) (hkl : kl.length ≤ 140737488355328) :
    Calls Try.prog 12 #[.agg #[.int .i64 n, sv], v, s] w (Ret fun r w' => r = .bool true ∧ Sat G L w') := by
  cases hD : startD n l with
  | none => exact ct_law06_DiskKeeps_nil (kl := kl) hw ka hll ko hD
  | some D => exact ct_law06_DiskKeeps_go hw ka hll ko kk hkl hD
end
end Go.Proofs.Ytekilljcoplacaa.X
