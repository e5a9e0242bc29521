/- The helpers of the laws of layer 6: works, started. -/
import Derived.Test.YtekilljcoplacaaXDisk3
namespace Go.Proofs.Ytekilljcoplacaa.X
set_option linter.unusedVariables false
set_option linter.unusedSimpArgs false

theorem rowB {L R : List Assn} {T n : Nat} {v : Value} {l : Bys} (hn : l.length = n) (q : Pick (row T 1 v n (bys l)) L R) : Knows L (SlB v l) := by
  subst hn; exact (SlB.row.head _).pick q

/-! ### works -/
def wb : Bys := 3 :: (List.replicate 510 0 ++ [4])
theorem wb_length : wb.length = 512 := by kernel_rfl
theorem wb_cells : ((rep 512 (.int .u8 0)).set 0 (.int .u8 3)).set 511 (.int .u8 4) = bys wb := by kernel_rfl
def w0 : Dk := Dk.new (List.replicate 8 zb)
def w1 : Dk := w0.wr 2 wb
def w2 : Dk := ⟨settleL (fun _ => true) w1.ws 0 w1.lasts, [], w1.on, w1.tick.alarm, w1.wrote, w1.synced + 1⟩
theorem w0_write : w0.write 2 wb = (0, w1) := by
  unfold Dk.write
  rw [if_neg (by simp [w0, Dk.new]), if_neg (by simp [w0, Dk.new]), if_neg (by rw [wb_length]; simp), if_neg (by simp [w0, Dk.new])]; rfl
theorem w1_sync : w1.sync = (0, w2) := by
  unfold Dk.sync
  rw [if_neg (by simp [w1, w0, Dk.wr, Dk.new]), if_neg (by simp [w1, w0, Dk.wr, Dk.new, Dk.tick])]; rfl
theorem w1_shows : w1.shows 2 = wb := rfl
theorem w1_img : w1.img.getD 1024 0 = 0 := by kernel_rfl
theorem w2_img : w2.img.getD 1024 0 = 3 := by kernel_rfl
theorem w1_len : w1.img.length = 4096 := by kernel_rfl
theorem w2_len : w2.img.length = 4096 := by kernel_rfl

section
variable {G : Gh} {L R : List Assn} {w : World} {p : Nat} {D : Dk}

theorem ct_law06_works (hw : Sat G L w) : Calls Try.prog 18 #[] w (Ret fun v w' => v = .bool true ∧ Sat G L w') := by
  refine calls_of_x (args := []) func_law06_works rfl nt_law06_works rfl ?_
  refine x_seq ?_
  refine x_region rfl ?_
  refine x_as rfl rfl trivial rfl ?_  -- law.go:132 assign False
  refine xl_nil ?_
  refine x_seq ?_
  refine x_region rfl ?_
  refine x_call rfl rfl trivial cal_disk_New rfl (ct_disk_New (n := 8) hw) rfl (fun w v7 hv => ?_)  -- law.go:133 call f49 coppice/disk.New(8)
  obtain ⟨h8, -, -⟩ | ⟨-, q, rfl, hw⟩ := hv
  · omega
  replace hw : Sat G (dsk q w0 :: L) w := hw
  refine x_mv rfl rfl trivial rfl ?_  -- law.go:133 move t7
  refine x_ext rfl rfl trivial rfl rfl ?_  -- law.go:133 extract t6 .0
  refine x_ext rfl rfl trivial rfl rfl ?_  -- law.go:133 extract t6 .1
  refine x_as rfl rfl trivial rfl ?_  -- law.go:133 assign t8
  refine x_as rfl rfl trivial rfl ?_  -- law.go:133 assign t9
  refine xl_nil ?_
  refine x_seq ?_
  refine x_seq ?_
  refine x_region rfl ?_
  refine x_mv rfl rfl trivial rfl ?_  -- law.go:134 move t2
  refine x_ne rfl rfl trivial rfl rfl rfl ?_  -- law.go:134 neq[26] t10 0
  refine x_mv rfl rfl trivial rfl ?_  -- law.go:134 move t11
  refine xl_split (d := 12) rfl (fun h1 => ?_) (fun h1 => ?_)
  · -- yes
    exact absurd rfl h1
  · -- no
    refine x_mv rfl rfl ⟨_, rfl, rfl⟩ rfl ?_  -- law.go:134 move t1
    refine x_eqnil rfl rfl ⟨_, rfl, rfl⟩ rfl U_p_disk_Disk rfl ?_  -- law.go:134 eql[25] t13 {'nilptr': 1}
    refine x_pickF rfl rfl trivial rfl rfl rfl ?_  -- law.go:134 pick t12 ? True : t14
    refine xl_nil ?_
    refine x_cond_false rfl ?_
    refine x_skip ?_
    refine x_seq ?_
    refine x_region rfl ?_
    refine x_mks rfl rfl trivial U_sl_uint8 sz_uint8 by_uint8 z_uint8 rfl rfl ⟨by omega, by omega⟩ (by omega) (by omega) hw rfl (fun w b16 hw => ?_)  -- law.go:137 makeSlice 23 512 512
    simp only [show Int.toNat 512 = 512 from rfl] at hw ⊢
    refine x_as rfl rfl trivial rfl ?_  -- law.go:137 assign t16
    refine xl_nil ?_
    refine x_seq ?_
    refine x_region rfl ?_
    refine x_mv rfl rfl trivial rfl ?_  -- law.go:138 move t3
    refine x_mv rfl rfl trivial rfl ?_  -- law.go:138 move t3
    refine x_idx1 rfl rfl trivial U_sl_uint8 sz_uint8 rfl rfl ⟨by omega, by omega⟩ ?_  -- law.go:138 indexAddr[23] t17 [0] 
    -- law.go:138 store[5] t19 := 3
    refine x_st1 (l' := (rep 512 (.int .u8 0)).set 0 (.int .u8 3)) rfl trivial rfl rfl one_uint8 rfl hw (by repeat (first | with_reducible exact Pick.here | apply Pick.there)) (by rw [rep_length]; rfl) rfl rfl (fun w hw => ?_)
    refine x_idx1 rfl rfl trivial U_sl_uint8 sz_uint8 rfl rfl ⟨by omega, by omega⟩ ?_  -- law.go:138 indexAddr[23] t18 [511] 
    -- law.go:138 store[5] t20 := 4
    refine x_st1 (l' := bys wb) rfl trivial rfl rfl one_uint8 rfl hw (by repeat (first | with_reducible exact Pick.here | apply Pick.there)) (by rw [List.length_set, rep_length]; rfl) wb_cells rfl (fun w hw => ?_)
    have hw := row_full (z := 1) (m := 512) hw (by rw [bys_length, wb_length]) (by simp only [maxLen]; omega)
    refine xl_nil ?_
    refine x_seq ?_
    refine x_seq ?_
    refine x_region rfl ?_
    refine x_mv rfl rfl trivial rfl ?_  -- law.go:139 move t1
    refine x_mv rfl rfl trivial rfl ?_  -- law.go:139 move t3
    refine x_call rfl rfl trivial cal_disk_Disk_Write rfl (ct_disk_Disk_Write (D := w0) (l := wb) (hw.pick (A := dsk q w0) (by repeat (first | with_reducible exact Pick.here | apply Pick.there))) (rowB wb_length (by repeat (first | with_reducible exact Pick.here | apply Pick.there))) (by rw [wb_length]; decide) (by simp [w0, Dk.new])) rfl (fun w v23 hv => ?_)  -- law.go:139 call f25 (*coppice/disk.Disk).Write(t21, 2, t22)
    obtain ⟨rfl, hw⟩ := hv
    rw [w0_write] at hw ⊢
    refine x_ne rfl rfl trivial rfl rfl rfl ?_  -- law.go:139 neq[26] t23 0
    refine xl_nil ?_
    refine x_if rfl (fun h3 => ?_) (fun h3 => ?_)
    · -- yes
      exact absurd rfl h3
    · -- no
      refine x_skip ?_
      refine x_seq ?_
      refine x_region rfl ?_
      refine x_mv rfl rfl trivial rfl ?_  -- law.go:142 move t1
      refine x_call rfl rfl trivial cal_disk_Disk_Read rfl (ct_disk_Disk_Read (D := w1) (i := 2) hw) rfl (fun w v27 hv => ?_)  -- law.go:142 call f40 (*coppice/disk.Disk).Read(t26, 2)
      obtain ⟨h, -⟩ | ⟨-, h, -⟩ | ⟨-, -, s4, rfl, hw⟩ := hv
      · cases h
      · exact absurd ⟨by decide, by decide⟩ h
      replace hw : Sat G (row 5 1 s4 512 (bys wb) :: _) w := hw
      refine x_mv rfl rfl trivial rfl ?_  -- law.go:142 move t27
      refine x_ext rfl rfl trivial rfl rfl ?_  -- law.go:142 extract t25 .0
      refine x_ext rfl rfl trivial rfl rfl ?_  -- law.go:142 extract t25 .1
      refine x_as rfl rfl trivial rfl ?_  -- law.go:142 assign t28
      refine x_as rfl rfl trivial rfl ?_  -- law.go:142 assign t29
      refine xl_nil ?_
      refine x_seq ?_
      refine x_seq ?_
      refine x_region rfl ?_
      refine x_mv rfl rfl trivial rfl ?_  -- law.go:143 move t5
      refine x_ne rfl rfl trivial rfl rfl rfl ?_  -- law.go:143 neq[26] t30 0
      refine x_mv rfl rfl trivial rfl ?_  -- law.go:143 move t31
      refine xl_split (d := 32) rfl (fun h4 => ?_) (fun h4 => ?_)
      · -- yes
        exact absurd rfl h4
      · -- no
        refine x_mv rfl rfl ⟨_, rfl, rfl⟩ rfl ?_  -- law.go:143 move t3
        refine x_mv rfl rfl ⟨_, rfl, rfl⟩ rfl ?_  -- law.go:143 move t4
        refine x_call rfl rfl ⟨_, rfl, rfl⟩ cal_ref00_EqBytes rfl (ct_ref00_EqBytes (v := .slice (some ⟨b16, 0, none⟩) 512 512) (v' := s4) (l := wb) (l' := wb) hw (rowB wb_length (by repeat (first | with_reducible exact Pick.here | apply Pick.there))) (rowB wb_length (by repeat (first | with_reducible exact Pick.here | apply Pick.there))) (by rw [wb_length]; decide) (by rw [wb_length]; decide)) rfl (fun w v35 hv => ?_)  -- law.go:143 call f19 coppice/coppiceref00.EqBytes(t33, t34)
        obtain ⟨rfl, hw⟩ := hv
        refine x_notp rfl rfl ⟨_, rfl, rfl⟩ rfl ?_  -- law.go:143 unOp "not" 4 35
        refine x_pickF rfl rfl trivial rfl rfl rfl ?_  -- law.go:143 pick t32 ? True : t36
        refine x_mv rfl rfl trivial rfl ?_  -- law.go:143 move t37
        refine xl_split (d := 38) rfl (fun h5 => ?_) (fun h5 => ?_)
        · -- yes
          exact absurd rfl h5
        · -- no
          refine x_mv rfl rfl ⟨_, rfl, rfl⟩ rfl ?_  -- law.go:143 move t1
          refine x_call rfl rfl ⟨_, rfl, rfl⟩ cal_disk_Disk_Image rfl (ct_disk_Disk_Image (D := w1) (p := q) (hw.pick (by repeat (first | with_reducible exact Pick.here | apply Pick.there)))) rfl (fun w v40 hv => ?_)  -- law.go:143 call f20 (*coppice/disk.Disk).Image(t39)
          replace hw : Sat G (row 5 1 v40 4096 (bys w1.img) :: _) w := hv
          obtain ⟨a40, c40, rfl⟩ := row_form hw
          refine x_len rfl rfl ⟨_, rfl, rfl⟩ rfl U_sl_uint8 rfl ?_  -- law.go:143 len(t40)
          refine x_ne rfl rfl ⟨_, rfl, rfl⟩ rfl rfl rfl ?_  -- law.go:143 neq[3] t41 4096
          refine x_pickF rfl rfl trivial rfl rfl rfl ?_  -- law.go:143 pick t38 ? True : t42
          refine x_mv rfl rfl trivial rfl ?_  -- law.go:143 move t43
          refine xl_split (d := 44) rfl (fun h6 => ?_) (fun h6 => ?_)
          · -- yes
            exact absurd rfl h6
          · -- no
            refine x_mv rfl rfl ⟨_, rfl, rfl⟩ rfl ?_  -- law.go:143 move t1
            refine x_call rfl rfl ⟨_, rfl, rfl⟩ cal_disk_Disk_Image rfl (ct_disk_Disk_Image (D := w1) (p := q) (hw.pick (by repeat (first | with_reducible exact Pick.here | apply Pick.there)))) rfl (fun w v46 hv => ?_)  -- law.go:143 call f20 (*coppice/disk.Disk).Image(t45)
            replace hw : Sat G (row 5 1 v46 4096 (bys w1.img) :: _) w := hv
            obtain ⟨a46, c46, rfl⟩ := row_form hw
            obtain ⟨b46, o46, rfl⟩ := ((rowB w1_len (by repeat (first | with_reducible exact Pick.here | apply Pick.there))).at hw).nn (by rw [w1_len]; decide)
            refine x_idx1 rfl rfl ⟨_, rfl, rfl⟩ U_sl_uint8 sz_uint8 rfl rfl ⟨by omega, by omega⟩ ?_  -- law.go:143 indexAddr[23] t46 [1024] 
            refine x_ld rfl rfl ⟨_, rfl, rfl⟩ rfl (Loads.one one_uint8 (((rowB w1_len (by repeat (first | with_reducible exact Pick.here | apply Pick.there))).at hw).at ⟨by decide, by rw [w1_len]; decide⟩)) ?_  -- law.go:143 load[5] t47
            refine x_ne rfl rfl ⟨_, rfl, rfl⟩ rfl rfl rfl ?_  -- law.go:143 neq[5] t48 0
            refine x_pickF rfl rfl trivial rfl rfl rfl ?_  -- law.go:143 pick t44 ? True : t49
            refine xl_nil ?_
            refine x_if rfl (fun h7 => ?_) (fun h7 => ?_)
            · -- yes
              exact absurd (by rw [show (1024 : Int).toNat = 1024 from rfl, w1_img]; rfl) h7
            · -- no
              refine x_skip ?_
              refine x_seq ?_
              refine x_region rfl ?_
              refine x_mv rfl rfl trivial rfl ?_  -- law.go:146 move t1
              refine x_call rfl rfl trivial cal_disk_Disk_Sync rfl (ct_disk_Disk_Sync (D := w1) (p := q) (hw.pick (by repeat (first | with_reducible exact Pick.here | apply Pick.there))) (by decide) (by decide)) rfl (fun w v52 hv => ?_)  -- law.go:146 call f24 (*coppice/disk.Disk).Sync(t51)
              obtain ⟨rfl, hw⟩ := hv
              rw [w1_sync] at hw ⊢
              refine x_eq rfl rfl trivial rfl rfl rfl ?_  -- law.go:146 eql[26] t52 0
              refine x_mv rfl rfl trivial rfl ?_  -- law.go:146 move t53
              refine xl_split (d := 54) rfl (fun h8 => ?_) (fun h8 => ?_)
              · -- yes
                refine x_mv rfl rfl ⟨_, rfl, rfl⟩ rfl ?_  -- law.go:146 move t1
                refine x_call rfl rfl ⟨_, rfl, rfl⟩ cal_disk_Disk_Image rfl (ct_disk_Disk_Image (D := w2) (p := q) (hw.pick (by repeat (first | with_reducible exact Pick.here | apply Pick.there)))) rfl (fun w v56 hv => ?_)  -- law.go:146 call f20 (*coppice/disk.Disk).Image(t55)
                replace hw : Sat G (row 5 1 v56 4096 (bys w2.img) :: _) w := hv
                obtain ⟨a56, c56, rfl⟩ := row_form hw
                obtain ⟨b56, o56, rfl⟩ := ((rowB w2_len (by repeat (first | with_reducible exact Pick.here | apply Pick.there))).at hw).nn (by rw [w2_len]; decide)
                refine x_idx1 rfl rfl ⟨_, rfl, rfl⟩ U_sl_uint8 sz_uint8 rfl rfl ⟨by omega, by omega⟩ ?_  -- law.go:146 indexAddr[23] t56 [1024] 
                refine x_ld rfl rfl ⟨_, rfl, rfl⟩ rfl (Loads.one one_uint8 (((rowB w2_len (by repeat (first | with_reducible exact Pick.here | apply Pick.there))).at hw).at ⟨by decide, by rw [w2_len]; decide⟩)) ?_  -- law.go:146 load[5] t57
                refine x_eq rfl rfl ⟨_, rfl, rfl⟩ rfl rfl rfl ?_  -- law.go:146 eql[5] t58 3
                refine x_pickT rfl rfl trivial rfl rfl rfl ?_  -- law.go:146 pick t54 ? t59 : False
                refine x_as rfl rfl trivial rfl ?_  -- law.go:146 assign t60
                refine xl_nil ?_
                refine x_ret ?_
                exact end1 rfl rfl ⟨by rw [show (1024 : Int).toNat = 1024 from rfl, w2_img]; rfl, (by repeat (first | exact hw | replace hw := hw.tail))⟩
              · -- no
                exact absurd rfl h8


/-- the disk of a start -/
def startD (n : Int) (l : Bys) : Option Dk :=
  if 0 < l.length then (if Fits8 l then some (Dk.new (chunks l (l.length / 512))) else none)
  else if 8 ≤ n ∧ n ≤ 65536 then some (Dk.new (List.replicate n.toNat zb)) else none

theorem ct_law06_started {n : Int} {v : Value} {l : Bys} (hw : Sat G L w) (ka : Knows L (SlB v l)) (hll : l.length ≤ 140737488355328) :
    Calls Try.prog 22 #[.agg #[.int .i64 n, v]] w (Ret fun r w' => (startD n l = none ∧ r = .pointer none ∧ Sat G L w') ∨ ∃ D q, startD n l = some D ∧ r = .pointer (some ⟨q, 0, none⟩) ∧ Sat G (dsk q D :: L) w') := by
  obtain ⟨a, cap, rfl⟩ := ((ka.of (by repeat (first | exact Suf.refl _ | apply Suf.cons))).at hw).form
  refine calls_of_x (args := [_]) func_law06_started rfl nt_law06_started rfl ?_
  refine x_seq ?_
  refine x_region rfl ?_
  refine x_box rfl rfl trivial rfl rfl hw rfl (fun w b1 hw => ?_)  -- law.go:215 box[37] t0
  refine x_as rfl rfl trivial rfl ?_  -- law.go:215 assign {'nilptr': 1}
  refine xl_nil ?_
  refine x_seq ?_
  refine x_seq ?_
  refine x_region rfl ?_
  refine x_fld rfl rfl trivial fo_coppicelaw06_Start_1 rfl ?_  -- law.go:216 fieldAddr[37] t1 .Bytes(+1)
  refine x_ld rfl rfl trivial rfl (Loads.blk1 one_sl_uint8 hw (by repeat (first | with_reducible exact Pick.here | apply Pick.there)) rfl) ?_  -- law.go:216 load[23] t7
  refine x_len rfl rfl trivial rfl U_sl_uint8 rfl ?_  -- law.go:216 len(t8)
  refine x_gt rfl rfl trivial rfl rfl ?_  -- law.go:216 gtr[3] t9 0
  refine xl_nil ?_
  refine x_if rfl (fun h1 => ?_) (fun h1 => ?_)
  · -- yes
    refine x_seq ?_
    refine x_region rfl ?_
    refine x_fld rfl rfl trivial fo_coppicelaw06_Start_1 rfl ?_  -- law.go:217 fieldAddr[37] t1 .Bytes(+1)
    refine x_ld rfl rfl trivial rfl (Loads.blk1 one_sl_uint8 hw (by repeat (first | with_reducible exact Pick.here | apply Pick.there)) rfl) ?_  -- law.go:217 load[23] t12
    refine x_call rfl rfl trivial cal_ref00_CopyBytes rfl (ct_ref00_CopyBytes (l := l) hw (ka.of (by repeat (first | exact Suf.refl _ | apply Suf.cons))) hll) rfl (fun w v14 hv => ?_)  -- law.go:217 call f15 coppice/coppiceref00.CopyBytes(t13)
    have hw := hv
    refine x_call rfl rfl trivial cal_disk_From rfl (ct_disk_From (l := l) hw (rowB rfl (by repeat (first | with_reducible exact Pick.here | apply Pick.there))) hll) rfl (fun w v15 hv => ?_)  -- law.go:217 call f16 coppice/disk.From(t14)
    have hl0 : 0 < l.length := by omega
    obtain ⟨x, er, rfl, hx⟩ : ∃ x er, v15 = .tuple #[.pointer x, .int .i64 er] ∧ ((startD n l = none ∧ x = none ∧ Sat G L w) ∨ ∃ D q, startD n l = some D ∧ x = some ⟨q, 0, none⟩ ∧ Sat G (dsk q D :: L) w) := by
      obtain ⟨hF, rfl, hw⟩ | ⟨hF, q, rfl, hw⟩ := hv
      · exact ⟨_, _, rfl, .inl ⟨by unfold startD; rw [if_pos hl0, if_neg hF], rfl, hw.tail.tail⟩⟩
      · exact ⟨_, _, rfl, .inr ⟨_, q, by unfold startD; rw [if_pos hl0, if_pos hF], rfl, (hw.drop (.there .here)).drop (.there .here)⟩⟩
    refine x_mv rfl rfl trivial rfl ?_  -- law.go:217 move t15
    refine x_ext rfl rfl trivial rfl rfl ?_  -- law.go:217 extract t11 .0
    refine x_ext rfl rfl trivial rfl rfl ?_  -- law.go:217 extract t11 .1
    refine x_as rfl rfl trivial rfl ?_  -- law.go:217 assign t16
    refine x_as rfl rfl trivial rfl ?_  -- law.go:217 assign t17
    refine xl_nil ?_
    refine x_seq ?_
    refine x_region rfl ?_
    refine x_mv rfl rfl trivial rfl ?_  -- law.go:218 move t3
    refine x_as rfl rfl trivial rfl ?_  -- law.go:218 assign t18
    refine xl_nil ?_
    refine x_ret ?_
    exact end1 rfl rfl (by
  obtain ⟨h1, rfl, h2⟩ | ⟨D, q, h1, rfl, h2⟩ := hx
  · exact .inl ⟨h1, rfl, h2⟩
  · exact .inr ⟨D, q, h1, rfl, h2⟩)
  · -- no
    refine x_skip ?_
    refine x_seq ?_
    refine x_region rfl ?_
    refine x_fld rfl rfl trivial fo_coppicelaw06_Start_0 rfl ?_  -- law.go:220 fieldAddr[37] t1 .Blocks(+0)
    refine x_ld rfl rfl trivial rfl (Loads.blk1 one_int hw (by repeat (first | with_reducible exact Pick.here | apply Pick.there)) rfl) ?_  -- law.go:220 load[3] t20
    refine x_call rfl rfl trivial cal_disk_New rfl (ct_disk_New (n := n) hw) rfl (fun w v22 hv => ?_)  -- law.go:220 call f49 coppice/disk.New(t21)
    have hl0 : ¬ 0 < l.length := by omega
    obtain ⟨x, er, rfl, hx⟩ : ∃ x er, v22 = .tuple #[.pointer x, .int .i64 er] ∧ ((startD n l = none ∧ x = none ∧ Sat G L w) ∨ ∃ D q, startD n l = some D ∧ x = some ⟨q, 0, none⟩ ∧ Sat G (dsk q D :: L) w) := by
      obtain ⟨hF, rfl, hw⟩ | ⟨hF, q, rfl, hw⟩ := hv
      · exact ⟨_, _, rfl, .inl ⟨by unfold startD; rw [if_neg hl0, if_neg hF], rfl, hw.tail⟩⟩
      · exact ⟨_, _, rfl, .inr ⟨_, q, by unfold startD; rw [if_neg hl0, if_pos hF]; rfl, rfl, hw.drop (.there .here)⟩⟩
    refine x_mv rfl rfl trivial rfl ?_  -- law.go:220 move t22
    refine x_ext rfl rfl trivial rfl rfl ?_  -- law.go:220 extract t19 .0
    refine x_ext rfl rfl trivial rfl rfl ?_  -- law.go:220 extract t19 .1
    refine x_as rfl rfl trivial rfl ?_  -- law.go:220 assign t23
    refine x_as rfl rfl trivial rfl ?_  -- law.go:220 assign t24
    refine xl_nil ?_
    refine x_seq ?_
    refine x_region rfl ?_
    refine x_mv rfl rfl trivial rfl ?_  -- law.go:221 move t5
    refine x_as rfl rfl trivial rfl ?_  -- law.go:221 assign t25
    refine xl_nil ?_
    refine x_ret ?_
    exact end1 rfl rfl (by
  obtain ⟨h1, rfl, h2⟩ | ⟨D, q, h1, rfl, h2⟩ := hx
  · exact .inl ⟨h1, rfl, h2⟩
  · exact .inr ⟨D, q, h1, rfl, h2⟩)
end
end Go.Proofs.Ytekilljcoplacaa.X
