/- DiskMakes, walked. -/
import Derived.Test.YtekilljcoplacaaXLaw6h
namespace Go.Proofs.Ytekilljcoplacaa.X
set_option linter.unusedVariables false
set_option linter.unusedSimpArgs false

section
variable {G : Gh} {L R : List Assn} {w : World} {p : Nat} {D : Dk}

theorem ct_law06_DiskMakes_nil {n : Int} {sv : Value} {l : Bys} (hw : Sat G L w) (ka : Knows L (SlB sv l)) (hll : l.length ≤ 140737488351232) (hD : startD n l = none) :
    Calls Try.prog 10 #[.agg #[.int .i64 n, sv]] w (Ret fun r w' => r = .bool true ∧ Sat G L w') := by
  refine calls_of_x (args := [_]) func_law06_DiskMakes rfl nt_law06_DiskMakes rfl ?_
  refine x_seq ?_
  refine x_region rfl ?_
  refine x_box rfl rfl trivial rfl rfl hw rfl (fun w b1 hw => ?_)  -- law.go:150 box[37] t0
  refine x_as rfl rfl trivial rfl ?_  -- law.go:150 assign False
  refine xl_nil ?_
  refine x_seq ?_
  refine x_region rfl ?_
  refine x_ld rfl rfl trivial rfl (Loads.blkA many_coppicelaw06_Start hw (by repeat (first | with_reducible exact Pick.here | apply Pick.there)) (by simp)) ?_  -- law.go:151 load[37] t1
  refine x_call rfl rfl trivial cal_law06_makes rfl (ct_law06_makes_nil (n := n) (l := l) hw (ka.of (by repeat (first | exact Suf.refl _ | apply Suf.cons))) hll hD) rfl (fun w v10 hv => ?_)  -- law.go:151 call f28 coppice/coppicelaw06.makes(t9)
  obtain ⟨rfl, hw⟩ := hv
  refine x_mv rfl rfl trivial rfl ?_  -- law.go:151 move t10
  refine x_ext rfl rfl trivial rfl rfl ?_  -- law.go:151 extract t8 .0
  refine x_ext rfl rfl trivial rfl rfl ?_  -- law.go:151 extract t8 .1
  refine x_ext rfl rfl trivial rfl rfl ?_  -- law.go:151 extract t8 .2
  refine x_as rfl rfl trivial rfl ?_  -- law.go:151 assign t11
  refine x_as rfl rfl trivial rfl ?_  -- law.go:151 assign t12
  refine x_as rfl rfl trivial rfl ?_  -- law.go:151 assign t13
  refine xl_nil ?_
  refine x_seq ?_
  refine x_seq ?_
  refine x_region rfl ?_
  refine x_mv rfl rfl trivial rfl ?_  -- law.go:152 move t5
  -- law.go:152 unOp "not" 4 14
  refine x_not rfl rfl trivial rfl ?_
  refine x_mv rfl rfl trivial rfl ?_  -- law.go:152 move t15
  refine x_call rfl rfl ⟨_, rfl, rfl⟩ cal_law06_works rfl (ct_law06_works hw) rfl (fun w v17 hv => ?_)  -- law.go:152 call f18 coppice/coppicelaw06.works()
  obtain ⟨rfl, hw⟩ := hv
  -- law.go:152 unOp "not" 4 17
  refine x_not rfl rfl ⟨_, rfl, rfl⟩ rfl ?_
  refine x_pickF rfl rfl trivial rfl rfl rfl ?_  -- law.go:152 pick t16 ? True : t18
  refine xl_nil ?_
  refine x_cond_false rfl ?_
  refine x_skip ?_
  refine x_seq ?_
  refine x_seq ?_
  refine x_region rfl ?_
  refine x_mv rfl rfl trivial rfl ?_  -- law.go:155 move t4
  refine x_eqnil rfl rfl trivial rfl U_p_coppiceref06_Disk rfl ?_  -- law.go:155 eql[29] t20 {'nilptr': 1}
  refine xl_nil ?_
  refine x_cond_true rfl ?_
  refine x_seq ?_
  refine x_region rfl ?_
  refine x_as rfl rfl trivial rfl ?_  -- law.go:156 assign True
  refine xl_nil ?_
  refine x_ret ?_
  exact end1 rfl rfl ⟨rfl, (by repeat (first | exact hw | replace hw := hw.tail))⟩

theorem ct_law06_DiskMakes_go {n : Int} {sv : Value} {l : Bys} (hw : Sat G L w) (ka : Knows L (SlB sv l)) (hll : l.length ≤ 140737488351232) (hD : startD n l = some D) :
    Calls Try.prog 10 #[.agg #[.int .i64 n, sv]] w (Ret fun r w' => r = .bool true ∧ Sat G L w') := by
  obtain ⟨hws, hon, -, hwr, hsy⟩ := startD_fresh hD
  refine calls_of_x (args := [_]) func_law06_DiskMakes rfl nt_law06_DiskMakes rfl ?_
  refine x_seq ?_
  refine x_region rfl ?_
  refine x_box rfl rfl trivial rfl rfl hw rfl (fun w b1 hw => ?_)  -- law.go:150 box[37] t0
  refine x_as rfl rfl trivial rfl ?_  -- law.go:150 assign False
  refine xl_nil ?_
  refine x_seq ?_
  refine x_region rfl ?_
  refine x_ld rfl rfl trivial rfl (Loads.blkA many_coppicelaw06_Start hw (by repeat (first | with_reducible exact Pick.here | apply Pick.there)) (by simp)) ?_  -- law.go:151 load[37] t1
  refine x_call rfl rfl trivial cal_law06_makes rfl (ct_law06_makes_go (n := n) (l := l) hw (ka.of (by repeat (first | exact Suf.refl _ | apply Suf.cons))) hll hD) rfl (fun w v10 hv => ?_)  -- law.go:151 call f28 coppice/coppicelaw06.makes(t9)
  obtain ⟨q1, q2, s2, rfl, hw⟩ := hv
  have hDok := (dsk_open hw).1
  have hil := hDok.img
  have hhi := hDok.hi
  simp only [rnew] at hw
  refine x_mv rfl rfl trivial rfl ?_  -- law.go:151 move t10
  refine x_ext rfl rfl trivial rfl rfl ?_  -- law.go:151 extract t8 .0
  refine x_ext rfl rfl trivial rfl rfl ?_  -- law.go:151 extract t8 .1
  refine x_ext rfl rfl trivial rfl rfl ?_  -- law.go:151 extract t8 .2
  refine x_as rfl rfl trivial rfl ?_  -- law.go:151 assign t11
  refine x_as rfl rfl trivial rfl ?_  -- law.go:151 assign t12
  refine x_as rfl rfl trivial rfl ?_  -- law.go:151 assign t13
  refine xl_nil ?_
  refine x_seq ?_
  refine x_seq ?_
  refine x_region rfl ?_
  refine x_mv rfl rfl trivial rfl ?_  -- law.go:152 move t5
  -- law.go:152 unOp "not" 4 14
  refine x_not rfl rfl trivial rfl ?_
  refine x_mv rfl rfl trivial rfl ?_  -- law.go:152 move t15
  refine x_call rfl rfl ⟨_, rfl, rfl⟩ cal_law06_works rfl (ct_law06_works hw) rfl (fun w v17 hv => ?_)  -- law.go:152 call f18 coppice/coppicelaw06.works()
  obtain ⟨rfl, hw⟩ := hv
  -- law.go:152 unOp "not" 4 17
  refine x_not rfl rfl ⟨_, rfl, rfl⟩ rfl ?_
  refine x_pickF rfl rfl trivial rfl rfl rfl ?_  -- law.go:152 pick t16 ? True : t18
  refine xl_nil ?_
  refine x_cond_false rfl ?_
  refine x_skip ?_
  refine x_seq ?_
  refine x_seq ?_
  refine x_region rfl ?_
  refine x_mv rfl rfl trivial rfl ?_  -- law.go:155 move t4
  refine x_eqnil rfl rfl trivial rfl U_p_coppiceref06_Disk rfl ?_  -- law.go:155 eql[29] t20 {'nilptr': 1}
  refine xl_nil ?_
  refine x_cond_false rfl ?_
  refine x_skip ?_
  refine x_seq ?_
  refine x_region rfl ?_
  refine x_mv rfl rfl trivial rfl ?_  -- law.go:158 move t3
  refine x_call rfl rfl trivial cal_disk_Disk_Acts rfl (ct_disk_Disk_Acts (D := D) (p := q1) hw) rfl (fun w v24 hv => ?_)  -- law.go:158 call f26 (*coppice/disk.Disk).Acts(t23)
  obtain ⟨rfl, hw⟩ := hv
  refine x_mv rfl rfl trivial rfl ?_  -- law.go:158 move t24
  refine x_ext rfl rfl trivial rfl rfl ?_  -- law.go:158 extract t22 .0
  refine x_ext rfl rfl trivial rfl rfl ?_  -- law.go:158 extract t22 .1
  refine x_as rfl rfl trivial rfl ?_  -- law.go:158 assign t25
  refine x_as rfl rfl trivial rfl ?_  -- law.go:158 assign t26
  refine xl_nil ?_
  refine x_seq ?_
  refine x_draw [0, 1, 2, 3, 4, 5, 6, 7, 8, 9, 10, 11, 12, 13, 14, 15, 16, 17, 18, 19, 20, 21, 22, 23, 24, 26, 27, 28, 29, 25, 30, 31, 32] mixed (by kernel_rfl) ?_  -- region 7
  replace hw := hw.drawn (w.drawn + 1)
  refine x_mv rfl rfl trivial rfl ?_  -- law.go:159 move t3
  refine x_call rfl rfl trivial cal_disk_Disk_Blocks rfl (ct_disk_Disk_Blocks (D := D) (p := q1) hw) (by kernel_rfl) (fun w v28 hv => ?_)  -- law.go:159 call f29 (*coppice/disk.Disk).Blocks(t27)
  obtain ⟨rfl, hw⟩ := hv
  refine x_mv rfl rfl trivial rfl ?_  -- law.go:159 move t4
  refine x_call rfl rfl trivial cal_ref06_Disk_Blocks rfl (ct_ref06_Disk_Blocks (q := q2) (l := D.img) hw (R := _) (by repeat (first | with_reducible exact Pick.here | apply Pick.there)) (rowB (n := D.img.length) rfl (by repeat (first | with_reducible exact Pick.here | apply Pick.there))) (by omega)) (by kernel_rfl) (fun w v30 hv => ?_)  -- law.go:159 call f30 (*coppice/coppiceref06.Disk).Blocks(t29)
  obtain ⟨rfl, hw⟩ := hv
  refine x_eq rfl rfl trivial rfl rfl rfl ?_  -- law.go:159 eql[3] t28 t30
  refine x_mv rfl rfl trivial rfl ?_  -- law.go:159 move t31
  refine xl_split (d := 32) rfl (fun h4 => ?_) (fun h4 => ?_)
  · -- yes
    refine x_mv rfl rfl ⟨_, rfl, rfl⟩ rfl ?_  -- law.go:159 move t3
    refine x_call rfl rfl ⟨_, rfl, rfl⟩ cal_disk_Disk_IsOn rfl (ct_disk_Disk_IsOn (D := D) (p := q1) hw) (by kernel_rfl) (fun w v34 hv => ?_)  -- law.go:159 call f27 (*coppice/disk.Disk).IsOn(t33)
    obtain ⟨rfl, hw⟩ := hv
    rw [hon]
    refine x_pickT rfl rfl trivial rfl rfl rfl ?_  -- law.go:159 pick t32 ? t34 : False
    refine x_mv rfl rfl trivial rfl ?_  -- law.go:159 move t35
    refine x_mv rfl rfl ⟨_, rfl, rfl⟩ rfl ?_  -- law.go:159 move t6
    refine x_eq rfl rfl ⟨_, rfl, rfl⟩ rfl rfl rfl ?_  -- law.go:159 eql[3] t37 0
    refine x_pickT rfl rfl trivial rfl rfl rfl ?_  -- law.go:159 pick t36 ? t38 : False
    refine x_mv rfl rfl trivial rfl ?_  -- law.go:159 move t39
    refine xl_split (d := 40) rfl (fun h6 => ?_) (fun h6 => ?_)
    · -- yes
      refine x_mv rfl rfl ⟨_, rfl, rfl⟩ rfl ?_  -- law.go:159 move t7
      refine x_eq rfl rfl ⟨_, rfl, rfl⟩ rfl rfl rfl ?_  -- law.go:159 eql[3] t41 0
      refine x_pickT rfl rfl trivial rfl rfl rfl ?_  -- law.go:159 pick t40 ? t42 : False
      refine x_mv rfl rfl trivial rfl ?_  -- law.go:159 move t43
      refine xl_split (d := 44) rfl (fun h7 => ?_) (fun h7 => ?_)
      · -- yes
        refine x_mv rfl rfl ⟨_, rfl, rfl⟩ rfl ?_  -- law.go:159 move t3
        refine x_call rfl rfl ⟨_, rfl, rfl⟩ cal_disk_Disk_Unsynced rfl (ct_disk_Disk_Unsynced (D := D) (p := q1) hw (by omega)) (by kernel_rfl) (fun w v46 hv => ?_)  -- law.go:159 call f31 (*coppice/disk.Disk).Unsynced(t45)
        have hw := hv
        obtain ⟨a46, c46, rfl⟩ := row_form hw
        refine x_len rfl rfl ⟨_, rfl, rfl⟩ rfl U_sl_int rfl ?_  -- law.go:159 len(t46)
        refine x_eq rfl rfl ⟨_, rfl, rfl⟩ rfl rfl rfl ?_  -- law.go:159 eql[3] t47 0
        refine x_pickT rfl rfl trivial rfl rfl rfl ?_  -- law.go:159 pick t44 ? t48 : False
        refine x_mv rfl rfl trivial rfl ?_  -- law.go:159 move t49
        refine xl_split (d := 50) rfl (fun h8 => ?_) (fun h8 => ?_)
        · -- yes
          refine x_mv rfl rfl ⟨_, rfl, rfl⟩ rfl ?_  -- law.go:159 move t3
          refine x_mv rfl rfl ⟨_, rfl, rfl⟩ rfl ?_  -- law.go:159 move t4
          refine x_nc rfl rfl ⟨_, rfl, rfl⟩ rfl ?_  -- law.go:159 nilCheck t53
          refine x_fld rfl rfl ⟨_, rfl, rfl⟩ fo_coppiceref06_Disk_0 rfl ?_  -- law.go:159 fieldAddr[56] t54 .Lasts(+0)
          refine x_ld rfl rfl ⟨_, rfl, rfl⟩ rfl (Loads.blk1 one_sl_uint8 hw (by repeat (first | with_reducible exact Pick.here | apply Pick.there)) rfl) ?_  -- law.go:159 load[23] t55
          -- law.go:159 call f20 (*coppice/disk.Disk).Image(t51)
          refine x_callP rfl rfl ⟨_, rfl, rfl⟩ cal_disk_Disk_Image rfl (ct_disk_Disk_Image (D := D) (p := q1) (hw.pick (by repeat (first | with_reducible exact Pick.here | apply Pick.there)))) (fun w v hv q' hq => ?_) (fun w v52 hv => ?_)
          · obtain rfl := pend_one (q0 := 29) (by kernel_rfl) hq
            exact chk_ld rfl rfl rfl (Loads.blk1 one_sl_uint8 hv (by repeat (first | with_reducible exact Pick.here | apply Pick.there)) rfl)
          have hw := hv
          refine x_call rfl rfl ⟨_, rfl, rfl⟩ cal_ref00_EqBytes rfl (ct_ref00_EqBytes (v := v52) (v' := s2) (l := D.img) (l' := D.img) hw (rowB (n := 512 * D.lasts.length) hil (by repeat (first | with_reducible exact Pick.here | apply Pick.there))) (rowB (n := D.img.length) rfl (by repeat (first | with_reducible exact Pick.here | apply Pick.there))) (by omega) (by omega)) (by kernel_rfl) (fun w v57 hv => ?_)  -- law.go:159 call f19 coppice/coppiceref00.EqBytes(t52, t56)
          obtain ⟨rfl, hw⟩ := hv
          refine x_pickT rfl rfl trivial rfl rfl rfl ?_  -- law.go:159 pick t50 ? t57 : False
          refine x_as rfl rfl trivial rfl ?_  -- law.go:159 assign t58
          refine xl_nil ?_
          refine x_ret ?_
          exact end1 rfl rfl ⟨by simp, (by repeat (first | exact hw | replace hw := hw.tail))⟩
        · -- no
          (rw [hws] at h8; exact absurd rfl h8)
      · -- no
        omega
    · -- no
      omega
  · -- no
    omega

theorem ct_law06_DiskMakes {n : Int} {sv : Value} {l : Bys} (hw : Sat G L w) (ka : Knows L (SlB sv l)) (hll : l.length ≤ 140737488351232) :
    Calls Try.prog 10 #[.agg #[.int .i64 n, sv]] w (Ret fun r w' => r = .bool true ∧ Sat G L w') := by
  cases hD : startD n l with
  | none => exact ct_law06_DiskMakes_nil hw ka hll hD
  | some D => exact ct_law06_DiskMakes_go hw ka hll hD
end
end Go.Proofs.Ytekilljcoplacaa.X
