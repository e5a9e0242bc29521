/- The document's New and Blocks; makes. -/
import Derived.Test.YtekilljcoplacaaXLaw6g
namespace Go.Proofs.Ytekilljcoplacaa.X
set_option linter.unusedVariables false
set_option linter.unusedSimpArgs false

section
variable {G : Gh} {L R : List Assn} {w : World} {p : Nat} {D : Dk}

theorem ct_ref06_New {n : Int} (hw : Sat G L w) :
    Calls Try.prog 57 #[.int .i64 n] w (Ret fun r w' => (¬ (8 ≤ n ∧ n ≤ 65536) ∧ r = .tuple #[.pointer none, .int .i64 1] ∧ Sat G L w') ∨
      ((8 ≤ n ∧ n ≤ 65536) ∧ ∃ p s, r = .tuple #[.pointer (some ⟨p, 0, none⟩), .int .i64 0] ∧ Sat G (blk p [s, .slice none 0 0, .bool true, .int .i64 (-1), .int .i64 0, .int .i64 0] 56 :: row 5 1 s (n.toNat * 512) (bys (List.replicate n.toNat zb).flatten) :: L) w')) := by
  refine calls_of_x (args := [_]) func_ref06_New rfl nt_ref06_New rfl ?_
  refine x_seq ?_
  refine x_region rfl ?_
  refine x_as rfl rfl trivial rfl ?_  -- ref.go:27 assign {'nilptr': 1}
  refine x_as rfl rfl trivial rfl ?_  -- ref.go:27 assign 0
  refine xl_nil ?_
  refine x_seq ?_
  refine x_seq ?_
  refine x_region rfl ?_
  refine x_mv rfl rfl trivial rfl ?_  -- ref.go:28 move t0
  refine x_call rfl rfl trivial cal_ref06_fits rfl (ct_ref06_fits hw) rfl (fun w v5 hv => ?_)  -- ref.go:28 call f48 coppice/coppiceref06.fits(t4)
  obtain ⟨rfl, hw⟩ := hv
  refine x_notp rfl rfl trivial rfl ?_  -- ref.go:28 unOp "not" 4 5
  refine xl_nil ?_
  refine x_if rfl (fun h1 => ?_) (fun h1 => ?_)
  · -- yes
    refine x_seq ?_
    refine x_region rfl ?_
    refine x_as rfl rfl trivial rfl ?_  -- ref.go:29 assign {'nilptr': 1}
    refine x_as rfl rfl trivial rfl ?_  -- ref.go:29 assign 1
    refine xl_nil ?_
    refine x_ret ?_
    exact end2 rfl rfl rfl (.inl ⟨by omega, rfl, hw⟩)
  · -- no
    obtain ⟨k, rfl⟩ := Int.eq_ofNat_of_zero_le (show 0 ≤ n by omega)
    refine x_skip ?_
    refine x_seq ?_
    refine x_region rfl ?_
    refine x_mv rfl rfl trivial rfl ?_  -- ref.go:31 move t0
    refine x_muli rfl rfl trivial rfl rfl (by omega) ?_  -- ref.go:31 mul[3] t7 512
    rw [show ((k : Int) * 512) = ((k * 512 : Nat) : Int) by omega]
    refine x_mks rfl rfl trivial U_sl_uint8 sz_uint8 by_uint8 z_uint8 rfl rfl ⟨by omega, by omega⟩ (by omega) (by omega) hw rfl (fun w b9 hw => ?_)  -- ref.go:31 makeSlice 23 8 8
    simp only [Int.toNat_natCast] at hw ⊢
    rw [rep_flat] at hw
    have hln : (bys (List.replicate k zb).flatten).length = k * 512 := by
      rw [← rep_flat, rep_length]
    have hw := row_full (z := 1) (m := k * 512) hw (by rw [hln]; omega) (by simp only [maxLen]; omega)
    -- ref.go:31 build 56 [[0, 9], [2, {"c": {"bool": true}}], [3, {"c": {"int": -1, "k": "i64"}}]]
    refine x_build (v := .agg #[.slice (some ⟨b9, 0, none⟩) (k * 512) (k * 512), .slice none 0 0, .bool true, .int .i64 (-1), .int .i64 0, .int .i64 0]) rfl rfl trivial rfl (fun w => by kernel_rfl) ?_
    refine x_box rfl rfl trivial rfl rfl hw rfl (fun w b11 hw => ?_)  -- ref.go:31 box[56] t10
    refine x_as rfl rfl trivial rfl ?_  -- ref.go:31 assign t11
    refine x_as rfl rfl trivial rfl ?_  -- ref.go:31 assign 0
    refine xl_nil ?_
    refine x_ret ?_
    exact end2 rfl rfl rfl (.inr ⟨by omega, _, _, rfl, hw⟩)

theorem ct_ref06_Disk_Blocks {l : Bys} {q : Nat} {s b1 b2 b3 b4 b5 : Value} (hw : Sat G L w) (hp : Pick (blk q [s, b1, b2, b3, b4, b5] 56) L R) (ka : Knows L (SlB s l)) (hll : l.length ≤ 140737488355328) :
    Calls Try.prog 30 #[.pointer (some ⟨q, 0, none⟩)] w (Ret fun r w' => r = .int .i64 (l.length / 512 : Nat) ∧ Sat G L w') := by
  obtain ⟨a, cap, rfl⟩ := (ka.at hw).form
  refine calls_of_x (args := [_]) func_ref06_Disk_Blocks rfl nt_ref06_Disk_Blocks rfl ?_
  refine x_seq ?_
  refine x_region rfl ?_
  refine x_as rfl rfl trivial rfl ?_  -- ref.go:43 assign 0
  refine xl_nil ?_
  refine x_seq ?_
  refine x_region rfl ?_
  refine x_mv rfl rfl trivial rfl ?_  -- ref.go:43 move t0
  refine x_nc rfl rfl trivial rfl ?_  -- ref.go:43 nilCheck t3
  refine x_fld rfl rfl trivial fo_coppiceref06_Disk_0 rfl ?_  -- ref.go:43 fieldAddr[56] t4 .Lasts(+0)
  refine x_ld rfl rfl trivial rfl (Loads.blk1 one_sl_uint8 hw hp rfl) ?_  -- ref.go:43 load[23] t5
  refine x_len rfl rfl trivial rfl U_sl_uint8 rfl ?_  -- ref.go:43 len(t6)
  refine x_quoi rfl rfl trivial rfl rfl (by omega) (by omega) ?_  -- ref.go:43 quo[3] t7 512
  refine x_as rfl rfl trivial rfl ?_  -- ref.go:43 assign t8
  refine xl_nil ?_
  refine x_ret ?_
  exact end1 rfl rfl ⟨by rw [show ((l.length : Int) / 512) = ((l.length / 512 : Nat) : Int) by omega], hw⟩

theorem startD_bytes {n : Int} {l : Bys} (hl : 0 < l.length) (h : startD n l = some D) : Fits8 l ∧ D = Dk.new (chunks l (l.length / 512)) ∧ D.img = l := by
  unfold startD at h
  rw [if_pos hl] at h
  split at h
  · rename_i hF
    cases h
    exact ⟨hF, rfl, chunks_flatten (by have := hF.1; omega)⟩
  · cases h
theorem startD_blocks {n : Int} {l : Bys} (hl : ¬ 0 < l.length) (h : startD n l = some D) : (8 ≤ n ∧ n ≤ 65536) ∧ D = Dk.new (List.replicate n.toNat zb) := by
  unfold startD at h
  rw [if_neg hl] at h
  split at h
  · rename_i hF; cases h; exact ⟨hF, rfl⟩
  · cases h
theorem startD_nobytes {n : Int} {l : Bys} (hl : 0 < l.length) (h : startD n l = none) : ¬ Fits8 l := fun hF => by
  unfold startD at h; rw [if_pos hl, if_pos hF] at h; cases h
theorem startD_noblocks {n : Int} {l : Bys} (hl : ¬ 0 < l.length) (h : startD n l = none) : ¬ (8 ≤ n ∧ n ≤ 65536) := fun hF => by
  unfold startD at h; rw [if_neg hl, if_pos hF] at h; cases h

theorem ct_law06_makes_nil {n : Int} {v : Value} {l : Bys} (hw : Sat G L w) (ka : Knows L (SlB v l)) (hll : l.length ≤ 140737488351232) (hD : startD n l = none) :
    Calls Try.prog 28 #[.agg #[.int .i64 n, v]] w (Ret fun r w' => r = .tuple #[.pointer none, .pointer none, .bool true] ∧ Sat G L w') := by
  obtain ⟨a, cap, rfl⟩ := ((ka.of (by repeat (first | exact Suf.refl _ | apply Suf.cons))).at hw).form
  refine calls_of_x (args := [_]) func_law06_makes rfl nt_law06_makes rfl ?_
  refine x_seq ?_
  refine x_region rfl ?_
  refine x_box rfl rfl trivial rfl rfl hw rfl (fun w b1 hw => ?_)  -- law.go:42 box[37] t0
  refine x_as rfl rfl trivial rfl ?_  -- law.go:42 assign {'nilptr': 1}
  refine x_as rfl rfl trivial rfl ?_  -- law.go:42 assign {'nilptr': 1}
  refine x_as rfl rfl trivial rfl ?_  -- law.go:42 assign False
  refine xl_nil ?_
  refine x_seq ?_
  refine x_seq ?_
  refine x_region rfl ?_
  refine x_fld rfl rfl trivial fo_coppicelaw06_Start_1 rfl ?_  -- law.go:43 fieldAddr[37] t1 .Bytes(+1)
  refine x_ld rfl rfl trivial rfl (Loads.blk1 one_sl_uint8 hw (by repeat (first | with_reducible exact Pick.here | apply Pick.there)) rfl) ?_  -- law.go:43 load[23] t14
  refine x_len rfl rfl trivial rfl U_sl_uint8 rfl ?_  -- law.go:43 len(t15)
  refine x_gt rfl rfl trivial rfl rfl ?_  -- law.go:43 gtr[3] t16 0
  refine xl_nil ?_
  refine x_if rfl (fun h1 => ?_) (fun h1 => ?_)
  · -- yes
    have hF := startD_nobytes (n := n) (by omega) hD
    refine x_seq ?_
    refine x_region rfl ?_
    refine x_fld rfl rfl trivial fo_coppicelaw06_Start_1 rfl ?_  -- law.go:44 fieldAddr[37] t1 .Bytes(+1)
    refine x_ld rfl rfl trivial rfl (Loads.blk1 one_sl_uint8 hw (by repeat (first | with_reducible exact Pick.here | apply Pick.there)) rfl) ?_  -- law.go:44 load[23] t18
    refine x_call rfl rfl trivial cal_ref00_Spare rfl (ct_ref00_Spare (l := l) hw (ka.of (by repeat (first | exact Suf.refl _ | apply Suf.cons))) hll) rfl (fun w v20 hv => ?_)  -- law.go:44 call f55 coppice/coppiceref00.Spare(t19)
    obtain ⟨b5, rfl, hw⟩ := hv
    refine x_as rfl rfl trivial rfl ?_  -- law.go:44 assign t20
    refine xl_nil ?_
    refine x_seq ?_
    refine x_region rfl ?_
    refine x_mv rfl rfl trivial rfl ?_  -- law.go:45 move t5
    refine x_call rfl rfl trivial cal_disk_From rfl (ct_disk_From (l := l) hw (spareB (by repeat (first | with_reducible exact Pick.here | apply Pick.there))) (by omega)) rfl (fun w v23 hv => ?_)  -- law.go:45 call f16 coppice/disk.From(t22)
    obtain ⟨-, rfl, hw⟩ | ⟨h, -⟩ := hv
    case inr => exact absurd h hF
    refine x_mv rfl rfl trivial rfl ?_  -- law.go:45 move t23
    refine x_ext rfl rfl trivial rfl rfl ?_  -- law.go:45 extract t21 .0
    refine x_ext rfl rfl trivial rfl rfl ?_  -- law.go:45 extract t21 .1
    refine x_as rfl rfl trivial rfl ?_  -- law.go:45 assign t24
    refine x_as rfl rfl trivial rfl ?_  -- law.go:45 assign t25
    refine xl_nil ?_
    refine x_seq ?_
    refine x_region rfl ?_
    refine x_fld rfl rfl trivial fo_coppicelaw06_Start_1 rfl ?_  -- law.go:46 fieldAddr[37] t1 .Bytes(+1)
    refine x_ld rfl rfl trivial rfl (Loads.blk1 one_sl_uint8 hw (by repeat (first | with_reducible exact Pick.here | apply Pick.there)) rfl) ?_  -- law.go:46 load[23] t27
    refine x_call rfl rfl trivial cal_ref06_From rfl (ct_ref06_From (l := l) hw (ka.of (by repeat (first | exact Suf.refl _ | apply Suf.cons))) (by omega)) rfl (fun w v29 hv => ?_)  -- law.go:46 call f17 coppice/coppiceref06.From(t28)
    obtain ⟨-, rfl, hw⟩ | ⟨h, -⟩ := hv
    case inr => exact absurd h hF
    refine x_mv rfl rfl trivial rfl ?_  -- law.go:46 move t29
    refine x_ext rfl rfl trivial rfl rfl ?_  -- law.go:46 extract t26 .0
    refine x_ext rfl rfl trivial rfl rfl ?_  -- law.go:46 extract t26 .1
    refine x_as rfl rfl trivial rfl ?_  -- law.go:46 assign t30
    refine x_as rfl rfl trivial rfl ?_  -- law.go:46 assign t31
    refine xl_nil ?_
    refine x_seq ?_
    refine x_region rfl ?_
    refine x_mv rfl rfl trivial rfl ?_  -- law.go:47 move t6
    refine x_mv rfl rfl trivial rfl ?_  -- law.go:47 move t8
    refine x_mv rfl rfl trivial rfl ?_  -- law.go:47 move t7
    refine x_mv rfl rfl trivial rfl ?_  -- law.go:47 move t9
    refine x_eq rfl rfl trivial rfl rfl rfl ?_  -- law.go:47 eql[26] t34 t35
    refine x_mv rfl rfl trivial rfl ?_  -- law.go:47 move t36
    refine xl_split (d := 37) rfl (fun h2 => ?_) (fun h2 => ?_)
    · -- yes
      refine x_mv rfl rfl ⟨_, rfl, rfl⟩ rfl ?_  -- law.go:47 move t6
      refine x_eqnil rfl rfl ⟨_, rfl, rfl⟩ rfl U_p_disk_Disk rfl ?_  -- law.go:47 eql[25] t38 {'nilptr': 1}
      refine x_mv rfl rfl ⟨_, rfl, rfl⟩ rfl ?_  -- law.go:47 move t8
      refine x_eqnil rfl rfl ⟨_, rfl, rfl⟩ rfl U_p_coppiceref06_Disk rfl ?_  -- law.go:47 eql[29] t40 {'nilptr': 1}
      refine x_eqb rfl rfl ⟨_, rfl, rfl⟩ rfl U_bool rfl rfl ?_  -- law.go:47 eql[4] t39 t41
      refine x_pickT rfl rfl trivial rfl rfl rfl ?_  -- law.go:47 pick t37 ? t42 : False
      refine x_mv rfl rfl trivial rfl ?_  -- law.go:47 move t43
      refine xl_split (d := 44) rfl (fun h3 => ?_) (fun h3 => ?_)
      · -- yes
        refine x_mv rfl rfl ⟨_, rfl, rfl⟩ rfl ?_  -- law.go:47 move t5
        refine x_fld rfl rfl ⟨_, rfl, rfl⟩ fo_coppicelaw06_Start_1 rfl ?_  -- law.go:47 fieldAddr[37] t1 .Bytes(+1)
        refine x_ld rfl rfl ⟨_, rfl, rfl⟩ rfl (Loads.blk1 one_sl_uint8 hw (by repeat (first | with_reducible exact Pick.here | apply Pick.there)) rfl) ?_  -- law.go:47 load[23] t46
        refine x_call rfl rfl ⟨_, rfl, rfl⟩ cal_ref00_Kept rfl (ct_ref00_Kept (l := l) hw (R := _) (by repeat (first | with_reducible exact Pick.here | apply Pick.there)) (ka.of (by repeat (first | exact Suf.refl _ | apply Suf.cons))) hll) rfl (fun w v48 hv => ?_)  -- law.go:47 call f56 coppice/coppiceref00.Kept(t45, t47)
        obtain ⟨rfl, hw⟩ := hv
        refine x_pickT rfl rfl trivial rfl rfl rfl ?_  -- law.go:47 pick t44 ? t48 : False
        refine x_as rfl rfl trivial rfl ?_  -- law.go:47 assign t32
        refine x_as rfl rfl trivial rfl ?_  -- law.go:47 assign t33
        refine x_as rfl rfl trivial rfl ?_  -- law.go:47 assign t49
        refine xl_nil ?_
        refine x_ret ?_
        exact end3 rfl rfl rfl rfl ⟨rfl, hw.tail.tail⟩
      · -- no
        exact absurd rfl h3
    · -- no
      exact absurd rfl h2
  · -- no
    have hF := startD_noblocks (n := n) (l := l) (by omega) hD
    refine x_skip ?_
    refine x_seq ?_
    refine x_region rfl ?_
    refine x_fld rfl rfl trivial fo_coppicelaw06_Start_0 rfl ?_  -- law.go:49 fieldAddr[37] t1 .Blocks(+0)
    refine x_ld rfl rfl trivial rfl (Loads.blk1 one_int hw (by repeat (first | with_reducible exact Pick.here | apply Pick.there)) rfl) ?_  -- law.go:49 load[3] t51
    refine x_call rfl rfl trivial cal_disk_New rfl (ct_disk_New (n := n) hw) rfl (fun w v53 hv => ?_)  -- law.go:49 call f49 coppice/disk.New(t52)
    obtain ⟨-, rfl, hw⟩ | ⟨h, -⟩ := hv
    case inr => exact absurd h hF
    refine x_mv rfl rfl trivial rfl ?_  -- law.go:49 move t53
    refine x_ext rfl rfl trivial rfl rfl ?_  -- law.go:49 extract t50 .0
    refine x_ext rfl rfl trivial rfl rfl ?_  -- law.go:49 extract t50 .1
    refine x_as rfl rfl trivial rfl ?_  -- law.go:49 assign t54
    refine x_as rfl rfl trivial rfl ?_  -- law.go:49 assign t55
    refine xl_nil ?_
    refine x_seq ?_
    refine x_region rfl ?_
    refine x_fld rfl rfl trivial fo_coppicelaw06_Start_0 rfl ?_  -- law.go:50 fieldAddr[37] t1 .Blocks(+0)
    refine x_ld rfl rfl trivial rfl (Loads.blk1 one_int hw (by repeat (first | with_reducible exact Pick.here | apply Pick.there)) rfl) ?_  -- law.go:50 load[3] t57
    refine x_call rfl rfl trivial cal_ref06_New rfl (ct_ref06_New (n := n) hw) rfl (fun w v59 hv => ?_)  -- law.go:50 call f57 coppice/coppiceref06.New(t58)
    obtain ⟨-, rfl, hw⟩ | ⟨h, -⟩ := hv
    case inr => exact absurd h hF
    refine x_mv rfl rfl trivial rfl ?_  -- law.go:50 move t59
    refine x_ext rfl rfl trivial rfl rfl ?_  -- law.go:50 extract t56 .0
    refine x_ext rfl rfl trivial rfl rfl ?_  -- law.go:50 extract t56 .1
    refine x_as rfl rfl trivial rfl ?_  -- law.go:50 assign t60
    refine x_as rfl rfl trivial rfl ?_  -- law.go:50 assign t61
    refine xl_nil ?_
    refine x_seq ?_
    refine x_region rfl ?_
    refine x_mv rfl rfl trivial rfl ?_  -- law.go:51 move t10
    refine x_mv rfl rfl trivial rfl ?_  -- law.go:51 move t12
    refine x_mv rfl rfl trivial rfl ?_  -- law.go:51 move t11
    refine x_mv rfl rfl trivial rfl ?_  -- law.go:51 move t13
    refine x_eq rfl rfl trivial rfl rfl rfl ?_  -- law.go:51 eql[26] t64 t65
    refine x_mv rfl rfl trivial rfl ?_  -- law.go:51 move t66
    refine xl_split (d := 67) rfl (fun h4 => ?_) (fun h4 => ?_)
    · -- yes
      refine x_mv rfl rfl ⟨_, rfl, rfl⟩ rfl ?_  -- law.go:51 move t10
      refine x_eqnil rfl rfl ⟨_, rfl, rfl⟩ rfl U_p_disk_Disk rfl ?_  -- law.go:51 eql[25] t68 {'nilptr': 1}
      refine x_mv rfl rfl ⟨_, rfl, rfl⟩ rfl ?_  -- law.go:51 move t12
      refine x_eqnil rfl rfl ⟨_, rfl, rfl⟩ rfl U_p_coppiceref06_Disk rfl ?_  -- law.go:51 eql[29] t70 {'nilptr': 1}
      refine x_eqb rfl rfl ⟨_, rfl, rfl⟩ rfl U_bool rfl rfl ?_  -- law.go:51 eql[4] t69 t71
      refine x_pickT rfl rfl trivial rfl rfl rfl ?_  -- law.go:51 pick t67 ? t72 : False
      refine x_as rfl rfl trivial rfl ?_  -- law.go:51 assign t62
      refine x_as rfl rfl trivial rfl ?_  -- law.go:51 assign t63
      refine x_as rfl rfl trivial rfl ?_  -- law.go:51 assign t73
      refine xl_nil ?_
      refine x_ret ?_
      exact end3 rfl rfl rfl rfl ⟨rfl, hw.tail⟩
    · -- no
      exact absurd rfl h4


/-- the document's disk, without a write -/
def rnew (q : Nat) (s : Value) : Assn := blk q [s, .slice none 0 0, .bool true, .int .i64 (-1), .int .i64 0, .int .i64 0] 56

theorem ct_law06_makes_go {n : Int} {v : Value} {l : Bys} (hw : Sat G L w) (ka : Knows L (SlB v l)) (hll : l.length ≤ 140737488351232) (hD : startD n l = some D) :
    Calls Try.prog 28 #[.agg #[.int .i64 n, v]] w (Ret fun r w' => ∃ q1 q2 s, r = .tuple #[.pointer (some ⟨q1, 0, none⟩), .pointer (some ⟨q2, 0, none⟩), .bool true] ∧ Sat G (dsk q1 D :: rnew q2 s :: row 5 1 s D.img.length (bys D.img) :: L) w') := by
  obtain ⟨a, cap, rfl⟩ := ((ka.of (by repeat (first | exact Suf.refl _ | apply Suf.cons))).at hw).form
  refine calls_of_x (args := [_]) func_law06_makes rfl nt_law06_makes rfl ?_
  refine x_seq ?_
  refine x_region rfl ?_
  refine x_box rfl rfl trivial rfl rfl hw rfl (fun w b1 hw => ?_)  -- law.go:42 box[37] t0
  refine x_as rfl rfl trivial rfl ?_  -- law.go:42 assign {'nilptr': 1}
  refine x_as rfl rfl trivial rfl ?_  -- law.go:42 assign {'nilptr': 1}
  refine x_as rfl rfl trivial rfl ?_  -- law.go:42 assign False
  refine xl_nil ?_
  refine x_seq ?_
  refine x_seq ?_
  refine x_region rfl ?_
  refine x_fld rfl rfl trivial fo_coppicelaw06_Start_1 rfl ?_  -- law.go:43 fieldAddr[37] t1 .Bytes(+1)
  refine x_ld rfl rfl trivial rfl (Loads.blk1 one_sl_uint8 hw (by repeat (first | with_reducible exact Pick.here | apply Pick.there)) rfl) ?_  -- law.go:43 load[23] t14
  refine x_len rfl rfl trivial rfl U_sl_uint8 rfl ?_  -- law.go:43 len(t15)
  refine x_gt rfl rfl trivial rfl rfl ?_  -- law.go:43 gtr[3] t16 0
  refine xl_nil ?_
  refine x_if rfl (fun h1 => ?_) (fun h1 => ?_)
  · -- yes
    obtain ⟨hF, hDe, hDi⟩ := startD_bytes (n := n) (by omega) hD
    refine x_seq ?_
    refine x_region rfl ?_
    refine x_fld rfl rfl trivial fo_coppicelaw06_Start_1 rfl ?_  -- law.go:44 fieldAddr[37] t1 .Bytes(+1)
    refine x_ld rfl rfl trivial rfl (Loads.blk1 one_sl_uint8 hw (by repeat (first | with_reducible exact Pick.here | apply Pick.there)) rfl) ?_  -- law.go:44 load[23] t18
    refine x_call rfl rfl trivial cal_ref00_Spare rfl (ct_ref00_Spare (l := l) hw (ka.of (by repeat (first | exact Suf.refl _ | apply Suf.cons))) hll) rfl (fun w v20 hv => ?_)  -- law.go:44 call f55 coppice/coppiceref00.Spare(t19)
    obtain ⟨b5, rfl, hw⟩ := hv
    refine x_as rfl rfl trivial rfl ?_  -- law.go:44 assign t20
    refine xl_nil ?_
    refine x_seq ?_
    refine x_region rfl ?_
    refine x_mv rfl rfl trivial rfl ?_  -- law.go:45 move t5
    refine x_call rfl rfl trivial cal_disk_From rfl (ct_disk_From (l := l) hw (spareB (by repeat (first | with_reducible exact Pick.here | apply Pick.there))) (by omega)) rfl (fun w v23 hv => ?_)  -- law.go:45 call f16 coppice/disk.From(t22)
    obtain ⟨h, -⟩ | ⟨-, q1, rfl, hw⟩ := hv
    case inl => exact absurd hF h
    rw [← hDe] at hw
    refine x_mv rfl rfl trivial rfl ?_  -- law.go:45 move t23
    refine x_ext rfl rfl trivial rfl rfl ?_  -- law.go:45 extract t21 .0
    refine x_ext rfl rfl trivial rfl rfl ?_  -- law.go:45 extract t21 .1
    refine x_as rfl rfl trivial rfl ?_  -- law.go:45 assign t24
    refine x_as rfl rfl trivial rfl ?_  -- law.go:45 assign t25
    refine xl_nil ?_
    refine x_seq ?_
    refine x_region rfl ?_
    refine x_fld rfl rfl trivial fo_coppicelaw06_Start_1 rfl ?_  -- law.go:46 fieldAddr[37] t1 .Bytes(+1)
    refine x_ld rfl rfl trivial rfl (Loads.blk1 one_sl_uint8 hw (by repeat (first | with_reducible exact Pick.here | apply Pick.there)) rfl) ?_  -- law.go:46 load[23] t27
    refine x_call rfl rfl trivial cal_ref06_From rfl (ct_ref06_From (l := l) hw (ka.of (by repeat (first | exact Suf.refl _ | apply Suf.cons))) (by omega)) rfl (fun w v29 hv => ?_)  -- law.go:46 call f17 coppice/coppiceref06.From(t28)
    obtain ⟨h, -⟩ | ⟨-, q2, s2, rfl, hw⟩ := hv
    case inl => exact absurd hF h
    refine x_mv rfl rfl trivial rfl ?_  -- law.go:46 move t29
    refine x_ext rfl rfl trivial rfl rfl ?_  -- law.go:46 extract t26 .0
    refine x_ext rfl rfl trivial rfl rfl ?_  -- law.go:46 extract t26 .1
    refine x_as rfl rfl trivial rfl ?_  -- law.go:46 assign t30
    refine x_as rfl rfl trivial rfl ?_  -- law.go:46 assign t31
    refine xl_nil ?_
    refine x_seq ?_
    refine x_region rfl ?_
    refine x_mv rfl rfl trivial rfl ?_  -- law.go:47 move t6
    refine x_mv rfl rfl trivial rfl ?_  -- law.go:47 move t8
    refine x_mv rfl rfl trivial rfl ?_  -- law.go:47 move t7
    refine x_mv rfl rfl trivial rfl ?_  -- law.go:47 move t9
    refine x_eq rfl rfl trivial rfl rfl rfl ?_  -- law.go:47 eql[26] t34 t35
    refine x_mv rfl rfl trivial rfl ?_  -- law.go:47 move t36
    refine xl_split (d := 37) rfl (fun h2 => ?_) (fun h2 => ?_)
    · -- yes
      refine x_mv rfl rfl ⟨_, rfl, rfl⟩ rfl ?_  -- law.go:47 move t6
      refine x_eqnil rfl rfl ⟨_, rfl, rfl⟩ rfl U_p_disk_Disk rfl ?_  -- law.go:47 eql[25] t38 {'nilptr': 1}
      refine x_mv rfl rfl ⟨_, rfl, rfl⟩ rfl ?_  -- law.go:47 move t8
      refine x_eqnil rfl rfl ⟨_, rfl, rfl⟩ rfl U_p_coppiceref06_Disk rfl ?_  -- law.go:47 eql[29] t40 {'nilptr': 1}
      refine x_eqb rfl rfl ⟨_, rfl, rfl⟩ rfl U_bool rfl rfl ?_  -- law.go:47 eql[4] t39 t41
      refine x_pickT rfl rfl trivial rfl rfl rfl ?_  -- law.go:47 pick t37 ? t42 : False
      refine x_mv rfl rfl trivial rfl ?_  -- law.go:47 move t43
      refine xl_split (d := 44) rfl (fun h3 => ?_) (fun h3 => ?_)
      · -- yes
        refine x_mv rfl rfl ⟨_, rfl, rfl⟩ rfl ?_  -- law.go:47 move t5
        refine x_fld rfl rfl ⟨_, rfl, rfl⟩ fo_coppicelaw06_Start_1 rfl ?_  -- law.go:47 fieldAddr[37] t1 .Bytes(+1)
        refine x_ld rfl rfl ⟨_, rfl, rfl⟩ rfl (Loads.blk1 one_sl_uint8 hw (by repeat (first | with_reducible exact Pick.here | apply Pick.there)) rfl) ?_  -- law.go:47 load[23] t46
        refine x_call rfl rfl ⟨_, rfl, rfl⟩ cal_ref00_Kept rfl (ct_ref00_Kept (l := l) hw (R := _) (by repeat (first | with_reducible exact Pick.here | apply Pick.there)) (ka.of (by repeat (first | exact Suf.refl _ | apply Suf.cons))) hll) rfl (fun w v48 hv => ?_)  -- law.go:47 call f56 coppice/coppiceref00.Kept(t45, t47)
        obtain ⟨rfl, hw⟩ := hv
        refine x_pickT rfl rfl trivial rfl rfl rfl ?_  -- law.go:47 pick t44 ? t48 : False
        refine x_as rfl rfl trivial rfl ?_  -- law.go:47 assign t32
        refine x_as rfl rfl trivial rfl ?_  -- law.go:47 assign t33
        refine x_as rfl rfl trivial rfl ?_  -- law.go:47 assign t49
        refine xl_nil ?_
        refine x_ret ?_
        exact end3 rfl rfl rfl rfl ⟨q1, q2, s2, rfl, by
  have h := hw.picks (As := [dsk q1 D, blk q2 _ _, row _ _ _ _ _]) (by repeat (first | exact Picks.nil | (apply Picks.cons; repeat (first | with_reducible exact Pick.here | apply Pick.there))))
  rw [hDi]
  exact (h.drop (.there (.there (.there (Pick.here (A := blk b5 _ _)))))).drop (.there (.there (.there .here)))⟩
      · -- no
        exact absurd rfl h3
    · -- no
      exact absurd rfl h2
  · -- no
    obtain ⟨hF, hDe⟩ := startD_blocks (n := n) (l := l) (by omega) hD
    refine x_skip ?_
    refine x_seq ?_
    refine x_region rfl ?_
    refine x_fld rfl rfl trivial fo_coppicelaw06_Start_0 rfl ?_  -- law.go:49 fieldAddr[37] t1 .Blocks(+0)
    refine x_ld rfl rfl trivial rfl (Loads.blk1 one_int hw (by repeat (first | with_reducible exact Pick.here | apply Pick.there)) rfl) ?_  -- law.go:49 load[3] t51
    refine x_call rfl rfl trivial cal_disk_New rfl (ct_disk_New (n := n) hw) rfl (fun w v53 hv => ?_)  -- law.go:49 call f49 coppice/disk.New(t52)
    obtain ⟨h, -⟩ | ⟨-, q1, rfl, hw⟩ := hv
    case inl => exact absurd hF h
    replace hw : Sat G (dsk q1 (Dk.new (List.replicate n.toNat zb)) :: _) w := hw
    rw [← hDe] at hw
    refine x_mv rfl rfl trivial rfl ?_  -- law.go:49 move t53
    refine x_ext rfl rfl trivial rfl rfl ?_  -- law.go:49 extract t50 .0
    refine x_ext rfl rfl trivial rfl rfl ?_  -- law.go:49 extract t50 .1
    refine x_as rfl rfl trivial rfl ?_  -- law.go:49 assign t54
    refine x_as rfl rfl trivial rfl ?_  -- law.go:49 assign t55
    refine xl_nil ?_
    refine x_seq ?_
    refine x_region rfl ?_
    refine x_fld rfl rfl trivial fo_coppicelaw06_Start_0 rfl ?_  -- law.go:50 fieldAddr[37] t1 .Blocks(+0)
    refine x_ld rfl rfl trivial rfl (Loads.blk1 one_int hw (by repeat (first | with_reducible exact Pick.here | apply Pick.there)) rfl) ?_  -- law.go:50 load[3] t57
    refine x_call rfl rfl trivial cal_ref06_New rfl (ct_ref06_New (n := n) hw) rfl (fun w v59 hv => ?_)  -- law.go:50 call f57 coppice/coppiceref06.New(t58)
    obtain ⟨h, -⟩ | ⟨-, q2, s2, rfl, hw⟩ := hv
    case inl => exact absurd hF h
    refine x_mv rfl rfl trivial rfl ?_  -- law.go:50 move t59
    refine x_ext rfl rfl trivial rfl rfl ?_  -- law.go:50 extract t56 .0
    refine x_ext rfl rfl trivial rfl rfl ?_  -- law.go:50 extract t56 .1
    refine x_as rfl rfl trivial rfl ?_  -- law.go:50 assign t60
    refine x_as rfl rfl trivial rfl ?_  -- law.go:50 assign t61
    refine xl_nil ?_
    refine x_seq ?_
    refine x_region rfl ?_
    refine x_mv rfl rfl trivial rfl ?_  -- law.go:51 move t10
    refine x_mv rfl rfl trivial rfl ?_  -- law.go:51 move t12
    refine x_mv rfl rfl trivial rfl ?_  -- law.go:51 move t11
    refine x_mv rfl rfl trivial rfl ?_  -- law.go:51 move t13
    refine x_eq rfl rfl trivial rfl rfl rfl ?_  -- law.go:51 eql[26] t64 t65
    refine x_mv rfl rfl trivial rfl ?_  -- law.go:51 move t66
    refine xl_split (d := 67) rfl (fun h4 => ?_) (fun h4 => ?_)
    · -- yes
      refine x_mv rfl rfl ⟨_, rfl, rfl⟩ rfl ?_  -- law.go:51 move t10
      refine x_eqnil rfl rfl ⟨_, rfl, rfl⟩ rfl U_p_disk_Disk rfl ?_  -- law.go:51 eql[25] t68 {'nilptr': 1}
      refine x_mv rfl rfl ⟨_, rfl, rfl⟩ rfl ?_  -- law.go:51 move t12
      refine x_eqnil rfl rfl ⟨_, rfl, rfl⟩ rfl U_p_coppiceref06_Disk rfl ?_  -- law.go:51 eql[29] t70 {'nilptr': 1}
      refine x_eqb rfl rfl ⟨_, rfl, rfl⟩ rfl U_bool rfl rfl ?_  -- law.go:51 eql[4] t69 t71
      refine x_pickT rfl rfl trivial rfl rfl rfl ?_  -- law.go:51 pick t67 ? t72 : False
      refine x_as rfl rfl trivial rfl ?_  -- law.go:51 assign t62
      refine x_as rfl rfl trivial rfl ?_  -- law.go:51 assign t63
      refine x_as rfl rfl trivial rfl ?_  -- law.go:51 assign t73
      refine xl_nil ?_
      refine x_ret ?_
      exact end3 rfl rfl rfl rfl ⟨q1, q2, s2, rfl, by
  have h := hw.picks (As := [dsk q1 D, blk q2 _ _, row _ _ _ _ _]) (by repeat (first | exact Picks.nil | (apply Picks.cons; repeat (first | with_reducible exact Pick.here | apply Pick.there))))
  have h1 : D.img = (List.replicate n.toNat zb).flatten := by rw [hDe]; rfl
  have h2 : D.img.length = n.toNat * 512 := by
    rw [h1, flat_len512 _ (fun x hx => by rw [List.eq_of_mem_replicate hx]; exact zb_length)]; simp; omega
  rw [h2, h1]
  exact h.drop (.there (.there (.there .here)))⟩
    · -- no
      exact absurd rfl h4
end
end Go.Proofs.Ytekilljcoplacaa.X
