/- The helpers of DiskFresh: asks, plays. -/
import Derived.Test.YtekilljcoplacaaXRef6
namespace Go.Proofs.Ytekilljcoplacaa.X
set_option linter.unusedVariables false
set_option linter.unusedSimpArgs false
set_option maxRecDepth 20000

section
variable {G : Gh} {L R : List Assn} {w : World} {p q : Nat} {D : Dk}

theorem ct_law06_eqBools {v v' : Value} {l : List Bool} (hw : Sat G L w) (ka : Knows L (SlV v (bools l))) (kb : Knows L (SlV v' (bools l))) (hl : l.length ≤ 140737488355328) :
    Calls Try.prog 67 #[v, v'] w (Ret fun r w' => r = .bool true ∧ Sat G L w') := by
  obtain ⟨a, cap, rfl⟩ := ((ka.of (by repeat (first | exact Suf.refl _ | apply Suf.cons))).at hw).form
  obtain ⟨a', cap', rfl⟩ := ((kb.of (by repeat (first | exact Suf.refl _ | apply Suf.cons))).at hw).form
  simp only [bools_length] at ka kb ⊢
  refine calls_of_x (args := [_, _]) func_law06_eqBools rfl nt_law06_eqBools rfl ?_
  refine x_seq ?_
  refine x_region rfl ?_
  refine x_as rfl rfl trivial rfl ?_  -- law.go:54 assign False
  refine xl_nil ?_
  refine x_seq ?_
  refine x_seq ?_
  refine x_region rfl ?_
  refine x_mv rfl rfl trivial rfl ?_  -- law.go:55 move t0
  refine x_len rfl rfl trivial rfl U_sl_bool rfl ?_  -- law.go:55 len(t6)
  refine x_mv rfl rfl trivial rfl ?_  -- law.go:55 move t1
  refine x_len rfl rfl trivial rfl U_sl_bool rfl ?_  -- law.go:55 len(t8)
  refine x_ne rfl rfl trivial rfl rfl rfl ?_  -- law.go:55 neq[3] t7 t9
  refine xl_nil ?_
  refine x_if rfl (fun h1 => ?_) (fun h1 => ?_)
  · -- yes
    omega
  · -- no
    refine x_skip ?_
    refine x_seq ?_
    refine x_seq ?_
    refine x_region rfl ?_
    refine x_as rfl rfl trivial rfl ?_  -- law.go:58 assign 0
    refine xl_nil ?_
    refine x_block ?_
    refine x_loop (fun m e w => ∃ k : Nat, k ≤ l.length ∧ m = l.length - k ∧ e = [(0, .slice a l.length cap), (1, .slice a' l.length cap'), (5, .int .i64 k)] ∧ Sat G L w)
      (m := l.length) (e₀ := [(0, .slice a l.length cap), (1, .slice a' l.length cap'), (5, .int .i64 (0 : Nat))]) (by repeat (first | exact Sub.nil _ | refine Sub.cons rfl ?_))
      ⟨0, Nat.zero_le _, rfl, rfl, hw⟩ ?_
    rintro m e w ⟨k, hk, rfl, rfl, hw⟩
    refine x_seq ?_
    refine x_seq ?_
    refine x_region rfl ?_
    refine x_mv rfl rfl trivial rfl ?_  -- law.go:58 move t5
    refine x_mv rfl rfl trivial rfl ?_  -- law.go:58 move t0
    refine x_len rfl rfl trivial rfl U_sl_bool rfl ?_  -- law.go:58 len(t12)
    refine x_lt rfl rfl trivial rfl rfl ?_  -- law.go:58 lss[3] t11 t13
    refine xl_nil ?_
    refine x_if rfl (fun h2 => ?_) (fun h2 => ?_)
    · -- yes
      have hk' : k < l.length := by omega
      obtain ⟨b, o, rfl⟩ := ((ka.of (by repeat (first | exact Suf.refl _ | apply Suf.cons))).at hw).nn (by rw [bools_length]; omega)
      obtain ⟨b', o', rfl⟩ := ((kb.of (by repeat (first | exact Suf.refl _ | apply Suf.cons))).at hw).nn (by rw [bools_length]; omega)
      have hget : (bools l)[(k : Int).toNat]? = some (.bool (l.getD k false)) := by simp [bools, hk']
      refine x_skip ?_
      refine x_seq ?_
      refine x_block ?_
      refine x_seq ?_
      refine x_draw [0, 1, 2, 3, 4, 5, 6, 7, 8] mixed (by kernel_rfl) ?_  -- region 6
      replace hw := hw.drawn (w.drawn + 1)
      refine x_mv rfl rfl trivial rfl ?_  -- law.go:59 move t0
      refine x_mv rfl rfl trivial rfl ?_  -- law.go:59 move t5
      refine x_idx1 rfl rfl trivial U_sl_bool sz_bool rfl rfl ⟨by omega, by omega⟩ ?_  -- law.go:59 indexAddr[41] t17 [t18] 
      refine x_ld rfl rfl trivial rfl (Loads.one one_bool (((ka.of (by repeat (first | exact Suf.refl _ | apply Suf.cons))).at hw).at hget)) ?_  -- law.go:59 load[4] t19
      refine x_mv rfl rfl trivial rfl ?_  -- law.go:59 move t1
      refine x_mv rfl rfl trivial rfl ?_  -- law.go:59 move t5
      refine x_idx1 rfl rfl trivial U_sl_bool sz_bool rfl rfl ⟨by omega, by omega⟩ ?_  -- law.go:59 indexAddr[41] t21 [t22] 
      refine x_ld rfl rfl trivial rfl (Loads.one one_bool (((kb.of (by repeat (first | exact Suf.refl _ | apply Suf.cons))).at hw).at hget)) ?_  -- law.go:59 load[4] t23
      refine x_neb rfl rfl trivial rfl U_bool rfl rfl ?_  -- law.go:59 neq[4] t20 t24
      refine xl_nil ?_
      refine x_cond rfl (fun h3 => ?_) (fun h3 => ?_)
      · -- yes
        (simp at h3)
      · -- no
        refine x_skip ?_
        refine x_region rfl ?_
        refine x_mv rfl rfl trivial rfl ?_  -- law.go:58 move t5
        refine x_addi rfl rfl trivial rfl rfl (by omega) ?_  -- law.go:58 add[3] t15 1
        refine x_as rfl rfl trivial rfl ?_  -- law.go:58 assign t16
        refine xl_nil ?_
        exact ⟨l.length - (k + 1), by omega, [(0, _), (1, _), (5, .int .i64 (k + 1 : Nat))], (by repeat (first | exact Sub.nil _ | refine Sub.cons rfl ?_)), k + 1, by omega, rfl, rfl, hw⟩
    · -- no
      refine x_exit rfl ?_  -- exit 0
      refine x_seq ?_
      refine x_region rfl ?_
      refine x_as rfl rfl trivial rfl ?_  -- law.go:63 assign True
      refine xl_nil ?_
      refine x_ret ?_
      exact end1 rfl rfl ⟨rfl, hw⟩

/-- what Read answers -/
def Dk.readA (D : Dk) (i : Int) : Bys × Int := if D.on = false then ([], 17) else if ¬ (0 ≤ i ∧ i < D.lasts.length) then ([], 16) else (D.shows i.toNat, 0)
theorem readA_le (h : D.Ok) (i : Int) : (D.readA i).1.length ≤ 512 := by
  unfold Dk.readA; repeat' split
  all_goals simp [shows_length h]
theorem ct_ReadD {i : Int} (hw : Sat G (dsk p D :: L) w) : Calls Try.prog 40 #[.pointer (some ⟨p, 0, none⟩), .int .i64 i] w (Ret fun v w' =>
    ∃ s, v = .tuple #[s, .int .i64 (D.readA i).2] ∧ Sat G (row 5 1 s (D.readA i).1.length (bys (D.readA i).1) :: dsk p D :: L) w') := by
  have hok := (dsk_open hw).1
  refine (ct_disk_Disk_Read (i := i) hw).mono fun e w' h => ?_
  obtain ⟨v, rfl, h⟩ := h
  refine ⟨v, rfl, ?_⟩
  unfold Dk.readA
  obtain ⟨h1, rfl, hw⟩ | ⟨h1, h2, rfl, hw⟩ | ⟨h1, h2, s, rfl, hw⟩ := h
  · rw [if_pos h1]; exact ⟨_, rfl, row_nil hw _ _⟩
  · rw [if_neg (by simp [h1]), if_pos h2]; exact ⟨_, rfl, row_nil hw _ _⟩
  · rw [if_neg (by simp [h1]), if_neg (by simpa using h2)]; exact ⟨_, rfl, by rw [shows_length hok]; exact hw⟩
theorem ct_ReadR {i : Int} (hw : Sat G (rdk q D :: L) w) (hcnt : D.wrote < 1000000000) : Calls Try.prog 41 #[.pointer (some ⟨q, 0, none⟩), .int .i64 i] w (Ret fun v w' =>
    ∃ s, v = .tuple #[s, .int .i64 (D.readA i).2] ∧ Sat G (row 5 1 s (D.readA i).1.length (bys (D.readA i).1) :: rdk q D :: L) w') := by
  have hok := (rdk_open hw).1
  refine (ct_ref06_Disk_Read (i := i) hw hcnt).mono fun e w' h => ?_
  obtain ⟨v, rfl, h⟩ := h
  refine ⟨v, rfl, ?_⟩
  unfold Dk.readA
  obtain ⟨h1, rfl, hw⟩ | ⟨h1, h2, rfl, hw⟩ | ⟨h1, h2, s, rfl, hw⟩ := h
  · rw [if_pos h1]; exact ⟨_, rfl, row_nil hw _ _⟩
  · rw [if_neg (by simp [h1]), if_pos h2]; exact ⟨_, rfl, row_nil hw _ _⟩
  · rw [if_neg (by simp [h1]), if_neg (by simpa using h2)]; exact ⟨_, rfl, by rw [shows_length hok]; exact hw⟩
/-- the bytes that last, in the document's disk -/
theorem rdk_lasts (hw : Sat G (rdk q D :: L) w) : ∃ s wv ss, Sat G (blk q (rcells s wv D) 56 :: row 5 1 s (512 * D.lasts.length) (bys D.img) :: row 92 2 wv D.ws.length (wcs ss D.ws) :: both (wrows ss D.ws) :: L) w ∧ ss.length = D.ws.length := by
  obtain ⟨hok, s, wv, ss, hss, hw⟩ := rdk_open hw
  exact ⟨s, wv, ss, hw, hss⟩

theorem ct_law06_asks {o : OpV} (hw : Sat G (dsk p D :: rdk q D :: L) w) (ho : o.Ok L) (hcnt : D.wrote ≤ 1000000 ∧ D.synced ≤ 1000000) :
    Calls Try.prog 68 #[.pointer (some ⟨p, 0, none⟩), .pointer (some ⟨q, 0, none⟩), .agg o.cells.toArray] w (Ret fun r w' => r = .bool true ∧ Sat G (dsk p D :: rdk q D :: L) w') := by
  have hok := (dsk_open hw).1
  have hhi := hok.hi
  have hig := hok.img
  have hwn := hok.cnt
  have hrd := readA_le hok
  simp only [OpV.cells]
  refine calls_of_x (args := [_, _, _]) func_law06_asks rfl nt_law06_asks rfl ?_
  refine x_seq ?_
  refine x_region rfl ?_
  refine x_box rfl rfl trivial rfl rfl hw rfl (fun w b5 hw => ?_)  -- law.go:75 box[43] t2
  refine x_as rfl rfl trivial rfl ?_  -- law.go:75 assign False
  refine xl_nil ?_
  refine x_seq ?_
  refine x_seq ?_
  refine x_region rfl ?_
  refine x_fld rfl rfl trivial fo_coppicelaw06_Op_0 rfl ?_  -- law.go:76 fieldAddr[43] t5 .Kind(+0)
  refine x_ld rfl rfl trivial rfl (Loads.blk1 one_int hw (by repeat (first | with_reducible exact Pick.here | apply Pick.there)) rfl) ?_  -- law.go:76 load[3] t15
  refine xl_nil ?_
  refine x_block ?_
  refine x_seq ?_
  refine x_region rfl ?_
  refine x_eq rfl rfl trivial rfl rfl rfl ?_  -- law.go:77 eql[3] t16 0
  refine x_as rfl rfl trivial rfl ?_  -- law.go:77 assign t18
  refine xl_nil ?_
  refine x_if rfl (fun h1 => ?_) (fun h1 => ?_)
  · -- yes
    refine x_seq ?_
    refine x_region rfl ?_
    refine x_mv rfl rfl trivial rfl ?_  -- law.go:78 move t0
    refine x_fld rfl rfl trivial fo_coppicelaw06_Op_1 rfl ?_  -- law.go:78 fieldAddr[43] t5 .I(+1)
    refine x_ld rfl rfl trivial rfl (Loads.blk1 one_int hw (by repeat (first | with_reducible exact Pick.here | apply Pick.there)) rfl) ?_  -- law.go:78 load[3] t21
    refine x_call rfl rfl trivial cal_disk_Disk_Read rfl (ct_ReadD (D := D) (p := p) (i := o.i) (hw.pick (A := dsk p D) (by repeat (first | with_reducible exact Pick.here | apply Pick.there)))) rfl (fun w v23 hv => ?_)  -- law.go:78 call f40 (*coppice/disk.Disk).Read(t20, t22)
    obtain ⟨x, rfl, hw⟩ := hv
    refine x_mv rfl rfl trivial rfl ?_  -- law.go:78 move t23
    refine x_ext rfl rfl trivial rfl rfl ?_  -- law.go:78 extract t19 .0
    refine x_ext rfl rfl trivial rfl rfl ?_  -- law.go:78 extract t19 .1
    refine x_as rfl rfl trivial rfl ?_  -- law.go:78 assign t24
    refine x_as rfl rfl trivial rfl ?_  -- law.go:78 assign t25
    refine xl_nil ?_
    refine x_seq ?_
    refine x_region rfl ?_
    refine x_mv rfl rfl trivial rfl ?_  -- law.go:79 move t1
    refine x_fld rfl rfl trivial fo_coppicelaw06_Op_1 rfl ?_  -- law.go:79 fieldAddr[43] t5 .I(+1)
    refine x_ld rfl rfl trivial rfl (Loads.blk1 one_int hw (by repeat (first | with_reducible exact Pick.here | apply Pick.there)) rfl) ?_  -- law.go:79 load[3] t28
    refine x_call rfl rfl trivial cal_ref06_Disk_Read rfl (ct_ReadR (D := D) (q := q) (i := o.i) (hw.pick (A := rdk q D) (by repeat (first | with_reducible exact Pick.here | apply Pick.there))) (by omega)) rfl (fun w v30 hv => ?_)  -- law.go:79 call f41 (*coppice/coppiceref06.Disk).Read(t27, t29)
    obtain ⟨y, rfl, hw⟩ := hv
    have hrl := hrd o.i
    refine x_mv rfl rfl trivial rfl ?_  -- law.go:79 move t30
    refine x_ext rfl rfl trivial rfl rfl ?_  -- law.go:79 extract t26 .0
    refine x_ext rfl rfl trivial rfl rfl ?_  -- law.go:79 extract t26 .1
    refine x_as rfl rfl trivial rfl ?_  -- law.go:79 assign t31
    refine x_as rfl rfl trivial rfl ?_  -- law.go:79 assign t32
    refine xl_nil ?_
    refine x_seq ?_
    refine x_region rfl ?_
    refine x_mv rfl rfl trivial rfl ?_  -- law.go:80 move t8
    refine x_mv rfl rfl trivial rfl ?_  -- law.go:80 move t10
    refine x_eq rfl rfl trivial rfl rfl rfl ?_  -- law.go:80 eql[26] t33 t34
    refine x_mv rfl rfl trivial rfl ?_  -- law.go:80 move t35
    refine xl_split (d := 36) rfl (fun h2 => ?_) (fun h2 => ?_)
    · -- yes
      refine x_mv rfl rfl ⟨_, rfl, rfl⟩ rfl ?_  -- law.go:80 move t7
      refine x_mv rfl rfl ⟨_, rfl, rfl⟩ rfl ?_  -- law.go:80 move t9
      refine x_call rfl rfl ⟨_, rfl, rfl⟩ cal_ref00_EqBytes rfl (ct_ref00_EqBytes (l := (D.readA o.i).1) (l' := (D.readA o.i).1) hw ((hw.knows (rowB (v := x) rfl (by repeat (first | with_reducible exact Pick.here | apply Pick.there))))) (hw.knows (rowB (v := y) rfl (by repeat (first | with_reducible exact Pick.here | apply Pick.there)))) (by omega) (by omega)) rfl (fun w v39 hv => ?_)  -- law.go:80 call f19 coppice/coppiceref00.EqBytes(t37, t38)
      obtain ⟨rfl, hw⟩ := hv
      refine x_pickT rfl rfl trivial rfl rfl rfl ?_  -- law.go:80 pick t36 ? t39 : False
      refine x_as rfl rfl trivial rfl ?_  -- law.go:80 assign t40
      refine xl_nil ?_
      refine x_ret ?_
      exact end1 rfl rfl ⟨by simp, (hw.bring (As := [blk b5 _ _, row 5 1 x _ _, row 5 1 y _ _, dsk p D, rdk q D]) (by repeat (first | exact Bring.nil | (apply Bring.cons; repeat (first | with_reducible exact Pick.here | apply Pick.there))))).tail.tail.tail⟩
    · -- no
      exact absurd rfl h2
  · -- no
    refine x_seq ?_
    refine x_region rfl ?_
    refine x_eq rfl rfl trivial rfl rfl rfl ?_  -- law.go:81 eql[3] t16 6
    refine x_as rfl rfl trivial rfl ?_  -- law.go:81 assign t42
    refine xl_nil ?_
    refine x_if rfl (fun h3 => ?_) (fun h3 => ?_)
    · -- yes
      refine x_seq ?_
      refine x_region rfl ?_
      refine x_mv rfl rfl trivial rfl ?_  -- law.go:82 move t0
      refine x_call rfl rfl trivial cal_disk_Disk_IsOn rfl (ct_disk_Disk_IsOn (D := D) (p := p) (hw.pick (A := dsk p D) (by repeat (first | with_reducible exact Pick.here | apply Pick.there)))) rfl (fun w v44 hv => ?_)  -- law.go:82 call f27 (*coppice/disk.Disk).IsOn(t43)
      obtain ⟨rfl, hw⟩ := hv
      refine x_mv rfl rfl trivial rfl ?_  -- law.go:82 move t1
      refine x_call rfl rfl trivial cal_ref06_Disk_IsOn rfl (ct_ref06_Disk_IsOn (D := D) (q := q) (hw.pick (A := rdk q D) (by repeat (first | with_reducible exact Pick.here | apply Pick.there)))) rfl (fun w v46 hv => ?_)  -- law.go:82 call f69 (*coppice/coppiceref06.Disk).IsOn(t45)
      obtain ⟨rfl, hw⟩ := hv
      refine x_eqb rfl rfl trivial rfl U_bool rfl rfl ?_  -- law.go:82 eql[4] t44 t46
      refine x_as rfl rfl trivial rfl ?_  -- law.go:82 assign t47
      refine xl_nil ?_
      refine x_ret ?_
      exact end1 rfl rfl ⟨by simp, (hw.bring (As := [blk b5 _ _, dsk p D, rdk q D]) (by repeat (first | exact Bring.nil | (apply Bring.cons; repeat (first | with_reducible exact Pick.here | apply Pick.there))))).tail⟩
    · -- no
      refine x_seq ?_
      refine x_region rfl ?_
      refine x_eq rfl rfl trivial rfl rfl rfl ?_  -- law.go:83 eql[3] t16 7
      refine x_as rfl rfl trivial rfl ?_  -- law.go:83 assign t49
      refine xl_nil ?_
      refine x_if rfl (fun h4 => ?_) (fun h4 => ?_)
      · -- yes
        refine x_seq ?_
        refine x_region rfl ?_
        refine x_mv rfl rfl trivial rfl ?_  -- law.go:84 move t0
        refine x_call rfl rfl trivial cal_disk_Disk_Unsynced rfl (ct_disk_Disk_Unsynced (D := D) (p := p) (hw.pick (A := dsk p D) (by repeat (first | with_reducible exact Pick.here | apply Pick.there))) (by omega)) rfl (fun w v51 hv => ?_)  -- law.go:84 call f31 (*coppice/disk.Disk).Unsynced(t50)
        have hw := hv
        refine x_mv rfl rfl trivial rfl ?_  -- law.go:84 move t1
        refine x_call rfl rfl trivial cal_ref06_Disk_Unsynced rfl (ct_ref06_Disk_Unsynced (D := D) (q := q) (hw.pick (A := rdk q D) (by repeat (first | with_reducible exact Pick.here | apply Pick.there))) (by omega)) rfl (fun w v53 hv => ?_)  -- law.go:84 call f45 (*coppice/coppiceref06.Disk).Unsynced(t52)
        have hw := hv
        refine x_call rfl rfl trivial cal_ref00_EqInts rfl (ct_ref00_EqInts (v := v51) (v' := v53) (l := D.nos) (l' := D.nos) hw (rowI (n := D.ws.length) nos_length (by repeat (first | with_reducible exact Pick.here | apply Pick.there))) (rowI (n := D.ws.length) nos_length (by repeat (first | with_reducible exact Pick.here | apply Pick.there))) (by rw [nos_length]; omega) (by rw [nos_length]; omega)) rfl (fun w v54 hv => ?_)  -- law.go:84 call f36 coppice/coppiceref00.EqInts(t51, t53)
        obtain ⟨rfl, hw⟩ := hv
        refine x_as rfl rfl trivial rfl ?_  -- law.go:84 assign t54
        refine xl_nil ?_
        refine x_ret ?_
        exact end1 rfl rfl ⟨by simp, (hw.bring (As := [blk b5 _ _, row _ _ v51 _ _, row _ _ v53 _ _, dsk p D, rdk q D]) (by repeat (first | exact Bring.nil | (apply Bring.cons; repeat (first | with_reducible exact Pick.here | apply Pick.there))))).tail.tail.tail⟩
      · -- no
        refine x_seq ?_
        refine x_region rfl ?_
        refine x_eq rfl rfl trivial rfl rfl rfl ?_  -- law.go:85 eql[3] t16 8
        refine x_as rfl rfl trivial rfl ?_  -- law.go:85 assign t56
        refine xl_nil ?_
        refine x_if rfl (fun h5 => ?_) (fun h5 => ?_)
        · -- yes
          refine x_seq ?_
          refine x_region rfl ?_
          refine x_mv rfl rfl trivial rfl ?_  -- law.go:86 move t0
          refine x_call rfl rfl trivial cal_disk_Disk_Acts rfl (ct_disk_Disk_Acts (D := D) (p := p) (hw.pick (A := dsk p D) (by repeat (first | with_reducible exact Pick.here | apply Pick.there)))) rfl (fun w v59 hv => ?_)  -- law.go:86 call f26 (*coppice/disk.Disk).Acts(t58)
          obtain ⟨rfl, hw⟩ := hv
          refine x_mv rfl rfl trivial rfl ?_  -- law.go:86 move t59
          refine x_ext rfl rfl trivial rfl rfl ?_  -- law.go:86 extract t57 .0
          refine x_ext rfl rfl trivial rfl rfl ?_  -- law.go:86 extract t57 .1
          refine x_as rfl rfl trivial rfl ?_  -- law.go:86 assign t60
          refine x_as rfl rfl trivial rfl ?_  -- law.go:86 assign t61
          refine xl_nil ?_
          refine x_seq ?_
          refine x_region rfl ?_
          refine x_mv rfl rfl trivial rfl ?_  -- law.go:87 move t1
          refine x_call rfl rfl trivial cal_ref06_Disk_Acts rfl (ct_ref06_Disk_Acts (D := D) (q := q) (hw.pick (A := rdk q D) (by repeat (first | with_reducible exact Pick.here | apply Pick.there)))) rfl (fun w v64 hv => ?_)  -- law.go:87 call f70 (*coppice/coppiceref06.Disk).Acts(t63)
          obtain ⟨rfl, hw⟩ := hv
          refine x_mv rfl rfl trivial rfl ?_  -- law.go:87 move t64
          refine x_ext rfl rfl trivial rfl rfl ?_  -- law.go:87 extract t62 .0
          refine x_ext rfl rfl trivial rfl rfl ?_  -- law.go:87 extract t62 .1
          refine x_as rfl rfl trivial rfl ?_  -- law.go:87 assign t65
          refine x_as rfl rfl trivial rfl ?_  -- law.go:87 assign t66
          refine xl_nil ?_
          refine x_seq ?_
          refine x_region rfl ?_
          refine x_mv rfl rfl trivial rfl ?_  -- law.go:88 move t11
          refine x_mv rfl rfl trivial rfl ?_  -- law.go:88 move t13
          refine x_eq rfl rfl trivial rfl rfl rfl ?_  -- law.go:88 eql[3] t67 t68
          refine x_mv rfl rfl trivial rfl ?_  -- law.go:88 move t69
          refine xl_split (d := 70) rfl (fun h6 => ?_) (fun h6 => ?_)
          · -- yes
            refine x_mv rfl rfl ⟨_, rfl, rfl⟩ rfl ?_  -- law.go:88 move t12
            refine x_mv rfl rfl ⟨_, rfl, rfl⟩ rfl ?_  -- law.go:88 move t14
            refine x_eq rfl rfl ⟨_, rfl, rfl⟩ rfl rfl rfl ?_  -- law.go:88 eql[3] t71 t72
            refine x_pickT rfl rfl trivial rfl rfl rfl ?_  -- law.go:88 pick t70 ? t73 : False
            refine x_as rfl rfl trivial rfl ?_  -- law.go:88 assign t74
            refine xl_nil ?_
            refine x_ret ?_
            exact end1 rfl rfl ⟨by simp, (hw.bring (As := [blk b5 _ _, dsk p D, rdk q D]) (by repeat (first | exact Bring.nil | (apply Bring.cons; repeat (first | with_reducible exact Pick.here | apply Pick.there))))).tail⟩
          · -- no
            exact absurd rfl h6
        · -- no
          refine x_seq ?_
          refine x_region rfl ?_
          refine x_eq rfl rfl trivial rfl rfl rfl ?_  -- law.go:89 eql[3] t16 9
          refine x_as rfl rfl trivial rfl ?_  -- law.go:89 assign t76
          refine xl_nil ?_
          refine x_if rfl (fun h7 => ?_) (fun h7 => ?_)
          · -- yes
            obtain ⟨s, wv, ss, hw, hss⟩ := rdk_lasts (hw.pick (A := rdk q D) (by repeat (first | with_reducible exact Pick.here | apply Pick.there)))
            refine x_seq ?_
            refine x_draw [2, 3, 4, 5, 0, 1, 6, 7] mixed (by kernel_rfl) ?_  -- region 15
            replace hw := hw.drawn (w.drawn + 1)
            refine x_mv rfl rfl trivial rfl ?_  -- law.go:90 move t1
            refine x_nc rfl rfl trivial rfl ?_  -- law.go:90 nilCheck t79
            refine x_fld rfl rfl trivial fo_coppiceref06_Disk_0 rfl ?_  -- law.go:90 fieldAddr[56] t80 .Lasts(+0)
            refine x_ld rfl rfl trivial rfl (Loads.blk1 one_sl_uint8 hw (by repeat (first | with_reducible exact Pick.here | apply Pick.there)) rfl) ?_  -- law.go:90 load[23] t81
            refine x_mv rfl rfl trivial rfl ?_  -- law.go:90 move t0
            -- law.go:90 call f20 (*coppice/disk.Disk).Image(t77)
            refine x_callP rfl rfl trivial cal_disk_Disk_Image rfl (ct_disk_Disk_Image (D := D) (p := p) (hw.pick (A := dsk p D) (by repeat (first | with_reducible exact Pick.here | apply Pick.there)))) (fun w v hv q' hq => ?_) (fun w v78 hw => ?_)
            · obtain rfl := pend_one (q0 := 5) (by kernel_rfl) hq
              exact chk_ld rfl rfl rfl (Loads.blk1 one_sl_uint8 hv (by repeat (first | with_reducible exact Pick.here | apply Pick.there)) rfl)
            refine x_call rfl rfl trivial cal_ref00_EqBytes rfl (ct_ref00_EqBytes (l := D.img) (l' := D.img) hw (hw.knows (rowB (v := v78) (n := 512 * D.lasts.length) hig (by repeat (first | with_reducible exact Pick.here | apply Pick.there)))) (hw.knows (rowB (v := s) (n := 512 * D.lasts.length) hig (by repeat (first | with_reducible exact Pick.here | apply Pick.there)))) (by omega) (by omega)) (by kernel_rfl) (fun w v83 hv => ?_)  -- law.go:90 call f19 coppice/coppiceref00.EqBytes(t78, t82)
            obtain ⟨rfl, hw⟩ := hv
            have hw := hw.bring (As := [blk q _ _, row 5 1 s _ _, row 92 _ _ _ _, both _]) (by repeat (first | exact Bring.nil | (apply Bring.cons; repeat (first | with_reducible exact Pick.here | apply Pick.there))))
            have hw := rdk_shut (D := D) hok hss hw
            refine x_as rfl rfl trivial rfl ?_  -- law.go:90 assign t83
            refine xl_nil ?_
            refine x_ret ?_
            exact end1 rfl rfl ⟨by simp, (hw.bring (As := [blk b5 _ _, row _ _ v78 _ _, dsk p D, rdk q D]) (by repeat (first | exact Bring.nil | (apply Bring.cons; repeat (first | with_reducible exact Pick.here | apply Pick.there))))).tail.tail⟩
          · -- no
            refine x_seq ?_
            refine x_region rfl ?_
            refine x_eq rfl rfl trivial rfl rfl rfl ?_  -- law.go:91 eql[3] t16 11
            refine x_as rfl rfl trivial rfl ?_  -- law.go:91 assign t85
            refine xl_nil ?_
            refine x_if rfl (fun h8 => ?_) (fun h8 => ?_)
            · -- yes
              refine x_seq ?_
              refine x_region rfl ?_
              refine x_mv rfl rfl trivial rfl ?_  -- law.go:92 move t0
              refine x_call rfl rfl trivial cal_disk_Disk_Blocks rfl (ct_disk_Disk_Blocks (D := D) (p := p) (hw.pick (A := dsk p D) (by repeat (first | with_reducible exact Pick.here | apply Pick.there)))) rfl (fun w v87 hv => ?_)  -- law.go:92 call f29 (*coppice/disk.Disk).Blocks(t86)
              obtain ⟨rfl, hw⟩ := hv
              obtain ⟨s, wv, ss, hw, hss⟩ := rdk_lasts (hw.pick (A := rdk q D) (by repeat (first | with_reducible exact Pick.here | apply Pick.there)))
              refine x_mv rfl rfl trivial rfl ?_  -- law.go:92 move t1
              refine x_call rfl rfl trivial cal_ref06_Disk_Blocks rfl (ct_ref06_Disk_Blocks (q := q) (l := D.img) hw (R := _) (by repeat (first | with_reducible exact Pick.here | apply Pick.there)) (rowB (n := 512 * D.lasts.length) hig (by repeat (first | with_reducible exact Pick.here | apply Pick.there))) (by omega)) rfl (fun w v89 hv => ?_)  -- law.go:92 call f30 (*coppice/coppiceref06.Disk).Blocks(t88)
              obtain ⟨rfl, hw⟩ := hv
              rw [img_div hok]
              have hw := hw.bring (As := [blk q _ _, row 5 1 s _ _, row 92 _ _ _ _, both _]) (by repeat (first | exact Bring.nil | (apply Bring.cons; repeat (first | with_reducible exact Pick.here | apply Pick.there))))
              have hw := rdk_shut (D := D) hok hss hw
              refine x_eq rfl rfl trivial rfl rfl rfl ?_  -- law.go:92 eql[3] t87 t89
              refine x_as rfl rfl trivial rfl ?_  -- law.go:92 assign t90
              refine xl_nil ?_
              refine x_ret ?_
              exact end1 rfl rfl ⟨by simp, (hw.bring (As := [blk b5 _ _, dsk p D, rdk q D]) (by repeat (first | exact Bring.nil | (apply Bring.cons; repeat (first | with_reducible exact Pick.here | apply Pick.there))))).tail⟩
            · -- no
              refine x_skip ?_
              refine x_seq ?_
              refine x_region rfl ?_
              refine x_as rfl rfl trivial rfl ?_  -- law.go:94 assign True
              refine xl_nil ?_
              refine x_ret ?_
              exact end1 rfl rfl ⟨rfl, hw.tail⟩

theorem ct_law06_plays {o : OpV} (hw : Sat G (dsk p D :: rdk q D :: L) w) (ho : o.Ok L) (hcnt : D.wrote ≤ 1000000 ∧ D.synced ≤ 1000000) :
    Calls Try.prog 42 #[.pointer (some ⟨p, 0, none⟩), .pointer (some ⟨q, 0, none⟩), .agg o.cells.toArray] w (Ret fun r w' => r = .bool true ∧ Sat G (dsk p (stepD D o) :: rdk q (stepD D o) :: L) w') := by
  have hob := ho.b
  have hob0 := ho.bl0
  have hok2 := ho.keep
  simp only [OpV.cells]
  refine calls_of_x (args := [_, _, _]) func_law06_plays rfl nt_law06_plays rfl ?_
  refine x_seq ?_
  refine x_region rfl ?_
  refine x_box rfl rfl trivial rfl rfl hw rfl (fun w b5 hw => ?_)  -- law.go:98 box[43] t2
  refine x_as rfl rfl trivial rfl ?_  -- law.go:98 assign False
  refine xl_nil ?_
  refine x_seq ?_
  refine x_seq ?_
  refine x_region rfl ?_
  refine x_fld rfl rfl trivial fo_coppicelaw06_Op_0 rfl ?_  -- law.go:99 fieldAddr[43] t5 .Kind(+0)
  refine x_ld rfl rfl trivial rfl (Loads.blk1 one_int hw (by repeat (first | with_reducible exact Pick.here | apply Pick.there)) rfl) ?_  -- law.go:99 load[3] t16
  refine xl_nil ?_
  refine x_block ?_
  refine x_seq ?_
  refine x_region rfl ?_
  refine x_eq rfl rfl trivial rfl rfl rfl ?_  -- law.go:100 eql[3] t17 1
  refine x_as rfl rfl trivial rfl ?_  -- law.go:100 assign t23
  refine xl_nil ?_
  refine x_if rfl (fun h1 => ?_) (fun h1 => ?_)
  · -- yes
    have hst : stepD D o = (D.write o.i o.bl).2 := by unfold stepD; rw [if_pos h1]
    refine x_seq ?_
    refine x_region rfl ?_
    refine x_fld rfl rfl trivial fo_coppicelaw06_Op_2 rfl ?_  -- law.go:101 fieldAddr[43] t5 .B(+2)
    refine x_ld rfl rfl trivial rfl (Loads.blk1 one_sl_uint8 hw (by repeat (first | with_reducible exact Pick.here | apply Pick.there)) rfl) ?_  -- law.go:101 load[23] t24
    refine x_call rfl rfl trivial cal_ref00_Spare rfl (ct_ref00_Spare (l := o.bl) hw (hob.of (by repeat (first | exact Suf.refl _ | apply Suf.cons))) hob0) rfl (fun w v26 hv => ?_)  -- law.go:101 call f55 coppice/coppiceref00.Spare(t25)
    obtain ⟨b26, rfl, hw⟩ := hv
    refine x_as rfl rfl trivial rfl ?_  -- law.go:101 assign t26
    refine xl_nil ?_
    refine x_seq ?_
    refine x_region rfl ?_
    refine x_mv rfl rfl trivial rfl ?_  -- law.go:102 move t0
    refine x_fld rfl rfl trivial fo_coppicelaw06_Op_1 rfl ?_  -- law.go:102 fieldAddr[43] t5 .I(+1)
    refine x_ld rfl rfl trivial rfl (Loads.blk1 one_int hw (by repeat (first | with_reducible exact Pick.here | apply Pick.there)) rfl) ?_  -- law.go:102 load[3] t28
    refine x_mv rfl rfl trivial rfl ?_  -- law.go:102 move t7
    refine x_call rfl rfl trivial cal_disk_Disk_Write rfl (ct_disk_Disk_Write (D := D) (p := p) (l := o.bl) (hw.pick (A := dsk p D) (by repeat (first | with_reducible exact Pick.here | apply Pick.there))) (spareB (by repeat (first | with_reducible exact Pick.here | apply Pick.there))) (by omega) (by omega)) rfl (fun w v31 hv => ?_)  -- law.go:102 call f25 (*coppice/disk.Disk).Write(t27, t29, t30)
    obtain ⟨rfl, hw⟩ := hv
    refine x_as rfl rfl trivial rfl ?_  -- law.go:102 assign t31
    refine xl_nil ?_
    refine x_seq ?_
    refine x_region rfl ?_
    refine x_mv rfl rfl trivial rfl ?_  -- law.go:103 move t1
    refine x_fld rfl rfl trivial fo_coppicelaw06_Op_1 rfl ?_  -- law.go:103 fieldAddr[43] t5 .I(+1)
    refine x_ld rfl rfl trivial rfl (Loads.blk1 one_int hw (by repeat (first | with_reducible exact Pick.here | apply Pick.there)) rfl) ?_  -- law.go:103 load[3] t33
    refine x_fld rfl rfl trivial fo_coppicelaw06_Op_2 rfl ?_  -- law.go:103 fieldAddr[43] t5 .B(+2)
    refine x_ld rfl rfl trivial rfl (Loads.blk1 one_sl_uint8 hw (by repeat (first | with_reducible exact Pick.here | apply Pick.there)) rfl) ?_  -- law.go:103 load[23] t35
    refine x_call rfl rfl trivial cal_ref06_Disk_Write rfl (ct_ref06_Disk_Write (D := D) (q := q) (l := o.bl) (hw.pick (A := rdk q D) (by repeat (first | with_reducible exact Pick.here | apply Pick.there))) (hob.of (by repeat (first | exact Suf.refl _ | apply Suf.cons))) (by omega) (by omega)) rfl (fun w v37 hv => ?_)  -- law.go:103 call f37 (*coppice/coppiceref06.Disk).Write(t32, t34, t36)
    obtain ⟨rfl, hw⟩ := hv
    refine x_as rfl rfl trivial rfl ?_  -- law.go:103 assign t37
    refine xl_nil ?_
    refine x_seq ?_
    refine x_region rfl ?_
    refine x_mv rfl rfl trivial rfl ?_  -- law.go:104 move t8
    refine x_mv rfl rfl trivial rfl ?_  -- law.go:104 move t9
    refine x_eq rfl rfl trivial rfl rfl rfl ?_  -- law.go:104 eql[26] t38 t39
    refine x_mv rfl rfl trivial rfl ?_  -- law.go:104 move t40
    refine xl_split (d := 41) rfl (fun h2 => ?_) (fun h2 => ?_)
    · -- yes
      refine x_mv rfl rfl ⟨_, rfl, rfl⟩ rfl ?_  -- law.go:104 move t7
      refine x_fld rfl rfl ⟨_, rfl, rfl⟩ fo_coppicelaw06_Op_2 rfl ?_  -- law.go:104 fieldAddr[43] t5 .B(+2)
      refine x_ld rfl rfl ⟨_, rfl, rfl⟩ rfl (Loads.blk1 one_sl_uint8 hw (by repeat (first | with_reducible exact Pick.here | apply Pick.there)) rfl) ?_  -- law.go:104 load[23] t43
      refine x_call rfl rfl ⟨_, rfl, rfl⟩ cal_ref00_Kept rfl (ct_ref00_Kept (l := o.bl) hw (R := _) (by repeat (first | with_reducible exact Pick.here | apply Pick.there)) (hob.of (by repeat (first | exact Suf.refl _ | apply Suf.cons))) hob0) rfl (fun w v45 hv => ?_)  -- law.go:104 call f56 coppice/coppiceref00.Kept(t42, t44)
      obtain ⟨rfl, hw⟩ := hv
      refine x_pickT rfl rfl trivial rfl rfl rfl ?_  -- law.go:104 pick t41 ? t45 : False
      refine x_as rfl rfl trivial rfl ?_  -- law.go:104 assign t46
      refine xl_nil ?_
      refine x_ret ?_
      exact end1 rfl rfl ⟨rfl, by rw [hst]; exact (hw.bring (As := [blk b5 _ _, blk b26 _ _, dsk p _, rdk q _]) (by repeat (first | exact Bring.nil | (apply Bring.cons; repeat (first | with_reducible exact Pick.here | apply Pick.there))))).tail.tail⟩
    · -- no
      exact absurd rfl h2
  · -- no
    refine x_seq ?_
    refine x_region rfl ?_
    refine x_eq rfl rfl trivial rfl rfl rfl ?_  -- law.go:105 eql[3] t17 2
    refine x_as rfl rfl trivial rfl ?_  -- law.go:105 assign t48
    refine xl_nil ?_
    refine x_if rfl (fun h3 => ?_) (fun h3 => ?_)
    · -- yes
      have hst : stepD D o = D.sync.2 := by unfold stepD; rw [if_neg h1, if_pos h3]
      refine x_seq ?_
      refine x_region rfl ?_
      refine x_mv rfl rfl trivial rfl ?_  -- law.go:106 move t0
      refine x_call rfl rfl trivial cal_disk_Disk_Sync rfl (ct_disk_Disk_Sync (D := D) (p := p) (hw.pick (A := dsk p D) (by repeat (first | with_reducible exact Pick.here | apply Pick.there))) (by omega) (by omega)) rfl (fun w v50 hv => ?_)  -- law.go:106 call f24 (*coppice/disk.Disk).Sync(t49)
      obtain ⟨rfl, hw⟩ := hv
      refine x_as rfl rfl trivial rfl ?_  -- law.go:106 assign t50
      refine xl_nil ?_
      refine x_seq ?_
      refine x_region rfl ?_
      refine x_mv rfl rfl trivial rfl ?_  -- law.go:107 move t1
      refine x_call rfl rfl trivial cal_ref06_Disk_Sync rfl (ct_ref06_Disk_Sync (D := D) (q := q) (hw.pick (A := rdk q D) (by repeat (first | with_reducible exact Pick.here | apply Pick.there))) (by omega) (by omega)) rfl (fun w v52 hv => ?_)  -- law.go:107 call f63 (*coppice/coppiceref06.Disk).Sync(t51)
      obtain ⟨rfl, hw⟩ := hv
      refine x_as rfl rfl trivial rfl ?_  -- law.go:107 assign t52
      refine xl_nil ?_
      refine x_seq ?_
      refine x_region rfl ?_
      refine x_mv rfl rfl trivial rfl ?_  -- law.go:108 move t10
      refine x_mv rfl rfl trivial rfl ?_  -- law.go:108 move t11
      refine x_eq rfl rfl trivial rfl rfl rfl ?_  -- law.go:108 eql[26] t53 t54
      refine x_as rfl rfl trivial rfl ?_  -- law.go:108 assign t55
      refine xl_nil ?_
      refine x_ret ?_
      exact end1 rfl rfl ⟨by simp, by rw [hst]; exact (hw.bring (As := [blk b5 _ _, dsk p _, rdk q _]) (by repeat (first | exact Bring.nil | (apply Bring.cons; repeat (first | with_reducible exact Pick.here | apply Pick.there))))).tail⟩
    · -- no
      refine x_seq ?_
      refine x_region rfl ?_
      refine x_eq rfl rfl trivial rfl rfl rfl ?_  -- law.go:109 eql[3] t17 3
      refine x_as rfl rfl trivial rfl ?_  -- law.go:109 assign t57
      refine xl_nil ?_
      refine x_if rfl (fun h4 => ?_) (fun h4 => ?_)
      · -- yes
        have hst : stepD D o = D.arm o.i := by unfold stepD; rw [if_neg h1, if_neg h3, if_pos h4]
        refine x_seq ?_
        refine x_region rfl ?_
        refine x_mv rfl rfl trivial rfl ?_  -- law.go:110 move t0
        refine x_fld rfl rfl trivial fo_coppicelaw06_Op_1 rfl ?_  -- law.go:110 fieldAddr[43] t5 .I(+1)
        refine x_ld rfl rfl trivial rfl (Loads.blk1 one_int hw (by repeat (first | with_reducible exact Pick.here | apply Pick.there)) rfl) ?_  -- law.go:110 load[3] t59
        refine x_call rfl rfl trivial cal_disk_Disk_Arm rfl (ct_disk_Disk_Arm (D := D) (p := p) (hw.pick (A := dsk p D) (by repeat (first | with_reducible exact Pick.here | apply Pick.there))) ho.i.2) rfl (fun w v61 hv => ?_)  -- law.go:110 call f23 (*coppice/disk.Disk).Arm(t58, t60)
        obtain ⟨-, hw⟩ := hv
        refine xl_nil ?_
        refine x_region rfl ?_
        refine x_mv rfl rfl trivial rfl ?_  -- law.go:111 move t1
        refine x_fld rfl rfl trivial fo_coppicelaw06_Op_1 rfl ?_  -- law.go:111 fieldAddr[43] t5 .I(+1)
        refine x_ld rfl rfl trivial rfl (Loads.blk1 one_int hw (by repeat (first | with_reducible exact Pick.here | apply Pick.there)) rfl) ?_  -- law.go:111 load[3] t63
        refine x_call rfl rfl trivial cal_ref06_Disk_Arm rfl (ct_ref06_Disk_Arm (D := D) (q := q) (hw.pick (A := rdk q D) (by repeat (first | with_reducible exact Pick.here | apply Pick.there))) ho.i.2) rfl (fun w v65 hv => ?_)  -- law.go:111 call f64 (*coppice/coppiceref06.Disk).Arm(t62, t64)
        obtain ⟨-, hw⟩ := hv
        refine xl_nil ?_
        refine x_seq ?_
        refine x_region rfl ?_
        refine x_as rfl rfl trivial rfl ?_  -- law.go:128 assign True
        refine xl_nil ?_
        refine x_ret ?_
        exact end1 rfl rfl ⟨rfl, by rw [hst]; exact (hw.bring (As := [blk b5 _ _, dsk p _, rdk q _]) (by repeat (first | exact Bring.nil | (apply Bring.cons; repeat (first | with_reducible exact Pick.here | apply Pick.there))))).tail⟩
      · -- no
        refine x_seq ?_
        refine x_region rfl ?_
        refine x_eq rfl rfl trivial rfl rfl rfl ?_  -- law.go:112 eql[3] t17 4
        refine x_as rfl rfl trivial rfl ?_  -- law.go:112 assign t67
        refine xl_nil ?_
        refine x_if rfl (fun h5 => ?_) (fun h5 => ?_)
        · -- yes
          have hst : stepD D o = D.failed := by unfold stepD; rw [if_neg h1, if_neg h3, if_neg h4, if_pos h5]
          refine x_seq ?_
          refine x_region rfl ?_
          refine x_mv rfl rfl trivial rfl ?_  -- law.go:113 move t0
          refine x_call rfl rfl trivial cal_disk_Disk_Off rfl (ct_Off (D := D) (p := p) (hw.pick (A := dsk p D) (by repeat (first | with_reducible exact Pick.here | apply Pick.there)))) rfl (fun w v69 hv => ?_)  -- law.go:113 call f33 (*coppice/disk.Disk).Off(t68)
          obtain ⟨-, hw⟩ := hv
          refine xl_nil ?_
          refine x_region rfl ?_
          refine x_mv rfl rfl trivial rfl ?_  -- law.go:114 move t1
          refine x_call rfl rfl trivial cal_ref06_Disk_Off rfl (ct_ref06_Disk_Off (D := D) (q := q) (hw.pick (A := rdk q D) (by repeat (first | with_reducible exact Pick.here | apply Pick.there)))) rfl (fun w v71 hv => ?_)  -- law.go:114 call f65 (*coppice/coppiceref06.Disk).Off(t70)
          obtain ⟨-, hw⟩ := hv
          refine xl_nil ?_
          refine x_seq ?_
          refine x_region rfl ?_
          refine x_as rfl rfl trivial rfl ?_  -- law.go:128 assign True
          refine xl_nil ?_
          refine x_ret ?_
          exact end1 rfl rfl ⟨rfl, by rw [hst]; exact (hw.bring (As := [blk b5 _ _, dsk p _, rdk q _]) (by repeat (first | exact Bring.nil | (apply Bring.cons; repeat (first | with_reducible exact Pick.here | apply Pick.there))))).tail⟩
        · -- no
          refine x_seq ?_
          refine x_region rfl ?_
          refine x_eq rfl rfl trivial rfl rfl rfl ?_  -- law.go:115 eql[3] t17 5
          refine x_as rfl rfl trivial rfl ?_  -- law.go:115 assign t73
          refine xl_nil ?_
          refine x_if rfl (fun h6 => ?_) (fun h6 => ?_)
          · -- yes
            have hst : stepD D o = D.onK o.kl := by unfold stepD; rw [if_neg h1, if_neg h3, if_neg h4, if_neg h5, if_pos h6]
            refine x_seq ?_
            refine x_region rfl ?_
            refine x_fld rfl rfl trivial fo_coppicelaw06_Op_3 rfl ?_  -- law.go:116 fieldAddr[43] t5 .Keep(+3)
            refine x_ld rfl rfl trivial rfl (Loads.blk1 one_sl_bool hw (by repeat (first | with_reducible exact Pick.here | apply Pick.there)) rfl) ?_  -- law.go:116 load[41] t74
            refine x_call rfl rfl trivial cal_law06_copyBools rfl (ct_law06_copyBools (kl := o.kl) hw (hok2.of (by repeat (first | exact Suf.refl _ | apply Suf.cons))) ho.kl) rfl (fun w v76 hv => ?_)  -- law.go:116 call f35 coppice/coppicelaw06.copyBools(t75)
            have hw := hv
            refine x_as rfl rfl trivial rfl ?_  -- law.go:116 assign t76
            refine xl_nil ?_
            refine x_seq ?_
            refine x_region rfl ?_
            refine x_mv rfl rfl trivial rfl ?_  -- law.go:117 move t0
            refine x_mv rfl rfl trivial rfl ?_  -- law.go:117 move t12
            refine x_call rfl rfl trivial cal_disk_Disk_On rfl (ct_disk_Disk_On (D := D) (p := p) (kl := o.kl) (hw.pick (A := dsk p D) (by repeat (first | with_reducible exact Pick.here | apply Pick.there))) (rowV rfl (by repeat (first | with_reducible exact Pick.here | apply Pick.there))) (by omega)) rfl (fun w v79 hv => ?_)  -- law.go:117 call f34 (*coppice/disk.Disk).On(t77, t78)
            obtain ⟨-, hw⟩ := hv
            refine xl_nil ?_
            refine x_seq ?_
            refine x_region rfl ?_
            refine x_mv rfl rfl trivial rfl ?_  -- law.go:118 move t1
            refine x_fld rfl rfl trivial fo_coppicelaw06_Op_3 rfl ?_  -- law.go:118 fieldAddr[43] t5 .Keep(+3)
            refine x_ld rfl rfl trivial rfl (Loads.blk1 one_sl_bool hw (by repeat (first | with_reducible exact Pick.here | apply Pick.there)) rfl) ?_  -- law.go:118 load[41] t81
            refine x_call rfl rfl trivial cal_ref06_Disk_On rfl (ct_ref06_Disk_On (D := D) (q := q) (kl := o.kl) (hw.pick (A := rdk q D) (by repeat (first | with_reducible exact Pick.here | apply Pick.there))) (hok2.of (by repeat (first | exact Suf.refl _ | apply Suf.cons))) (by omega)) rfl (fun w v83 hv => ?_)  -- law.go:118 call f66 (*coppice/coppiceref06.Disk).On(t80, t82)
            obtain ⟨-, hw⟩ := hv
            refine xl_nil ?_
            refine x_seq ?_
            refine x_region rfl ?_
            refine x_mv rfl rfl trivial rfl ?_  -- law.go:119 move t12
            refine x_fld rfl rfl trivial fo_coppicelaw06_Op_3 rfl ?_  -- law.go:119 fieldAddr[43] t5 .Keep(+3)
            refine x_ld rfl rfl trivial rfl (Loads.blk1 one_sl_bool hw (by repeat (first | with_reducible exact Pick.here | apply Pick.there)) rfl) ?_  -- law.go:119 load[41] t85
            refine x_call rfl rfl trivial cal_law06_eqBools rfl (ct_law06_eqBools (l := o.kl) hw (rowV rfl (by repeat (first | with_reducible exact Pick.here | apply Pick.there))) (hok2.of (by repeat (first | exact Suf.refl _ | apply Suf.cons))) ho.kl) rfl (fun w v87 hv => ?_)  -- law.go:119 call f67 coppice/coppicelaw06.eqBools(t84, t86)
            obtain ⟨rfl, hw⟩ := hv
            refine x_as rfl rfl trivial rfl ?_  -- law.go:119 assign t87
            refine xl_nil ?_
            refine x_ret ?_
            exact end1 rfl rfl ⟨rfl, by rw [hst]; exact (hw.bring (As := [blk b5 _ _, row _ _ v76 _ _, dsk p _, rdk q _]) (by repeat (first | exact Bring.nil | (apply Bring.cons; repeat (first | with_reducible exact Pick.here | apply Pick.there))))).tail.tail⟩
          · -- no
            refine x_seq ?_
            refine x_region rfl ?_
            refine x_eq rfl rfl trivial rfl rfl rfl ?_  -- law.go:120 eql[3] t17 10
            refine x_as rfl rfl trivial rfl ?_  -- law.go:120 assign t89
            refine xl_nil ?_
            refine x_if rfl (fun h7 => ?_) (fun h7 => ?_)
            · -- yes
              have hst : stepD D o = (D.lay o.i o.bl).2 := by unfold stepD; rw [if_neg h1, if_neg h3, if_neg h4, if_neg h5, if_neg h6, if_pos h7]
              refine x_seq ?_
              refine x_region rfl ?_
              refine x_fld rfl rfl trivial fo_coppicelaw06_Op_2 rfl ?_  -- law.go:121 fieldAddr[43] t5 .B(+2)
              refine x_ld rfl rfl trivial rfl (Loads.blk1 one_sl_uint8 hw (by repeat (first | with_reducible exact Pick.here | apply Pick.there)) rfl) ?_  -- law.go:121 load[23] t90
              refine x_call rfl rfl trivial cal_ref00_Spare rfl (ct_ref00_Spare (l := o.bl) hw (hob.of (by repeat (first | exact Suf.refl _ | apply Suf.cons))) hob0) rfl (fun w v92 hv => ?_)  -- law.go:121 call f55 coppice/coppiceref00.Spare(t91)
              obtain ⟨b92, rfl, hw⟩ := hv
              refine x_as rfl rfl trivial rfl ?_  -- law.go:121 assign t92
              refine xl_nil ?_
              refine x_seq ?_
              refine x_region rfl ?_
              refine x_mv rfl rfl trivial rfl ?_  -- law.go:122 move t0
              refine x_fld rfl rfl trivial fo_coppicelaw06_Op_1 rfl ?_  -- law.go:122 fieldAddr[43] t5 .I(+1)
              refine x_ld rfl rfl trivial rfl (Loads.blk1 one_int hw (by repeat (first | with_reducible exact Pick.here | apply Pick.there)) rfl) ?_  -- law.go:122 load[3] t94
              refine x_mv rfl rfl trivial rfl ?_  -- law.go:122 move t13
              refine x_call rfl rfl trivial cal_disk_Disk_Lay rfl (ct_disk_Disk_Lay (D := D) (p := p) (l := o.bl) (hw.pick (A := dsk p D) (by repeat (first | with_reducible exact Pick.here | apply Pick.there))) (spareB (by repeat (first | with_reducible exact Pick.here | apply Pick.there)))) rfl (fun w v97 hv => ?_)  -- law.go:122 call f38 (*coppice/disk.Disk).Lay(t93, t95, t96)
              obtain ⟨rfl, hw⟩ := hv
              refine x_as rfl rfl trivial rfl ?_  -- law.go:122 assign t97
              refine xl_nil ?_
              refine x_seq ?_
              refine x_region rfl ?_
              refine x_mv rfl rfl trivial rfl ?_  -- law.go:123 move t1
              refine x_fld rfl rfl trivial fo_coppicelaw06_Op_1 rfl ?_  -- law.go:123 fieldAddr[43] t5 .I(+1)
              refine x_ld rfl rfl trivial rfl (Loads.blk1 one_int hw (by repeat (first | with_reducible exact Pick.here | apply Pick.there)) rfl) ?_  -- law.go:123 load[3] t99
              refine x_fld rfl rfl trivial fo_coppicelaw06_Op_2 rfl ?_  -- law.go:123 fieldAddr[43] t5 .B(+2)
              refine x_ld rfl rfl trivial rfl (Loads.blk1 one_sl_uint8 hw (by repeat (first | with_reducible exact Pick.here | apply Pick.there)) rfl) ?_  -- law.go:123 load[23] t101
              refine x_call rfl rfl trivial cal_ref06_Disk_Lay rfl (ct_ref06_Disk_Lay (D := D) (q := q) (l := o.bl) (hw.pick (A := rdk q D) (by repeat (first | with_reducible exact Pick.here | apply Pick.there))) (hob.of (by repeat (first | exact Suf.refl _ | apply Suf.cons)))) rfl (fun w v103 hv => ?_)  -- law.go:123 call f39 (*coppice/coppiceref06.Disk).Lay(t98, t100, t102)
              obtain ⟨rfl, hw⟩ := hv
              refine x_as rfl rfl trivial rfl ?_  -- law.go:123 assign t103
              refine xl_nil ?_
              refine x_seq ?_
              refine x_region rfl ?_
              refine x_mv rfl rfl trivial rfl ?_  -- law.go:124 move t14
              refine x_mv rfl rfl trivial rfl ?_  -- law.go:124 move t15
              refine x_eqb rfl rfl trivial rfl U_bool rfl rfl ?_  -- law.go:124 eql[4] t104 t105
              refine x_mv rfl rfl trivial rfl ?_  -- law.go:124 move t106
              refine xl_split (d := 107) rfl (fun h8 => ?_) (fun h8 => ?_)
              · -- yes
                refine x_mv rfl rfl ⟨_, rfl, rfl⟩ rfl ?_  -- law.go:124 move t13
                refine x_fld rfl rfl ⟨_, rfl, rfl⟩ fo_coppicelaw06_Op_2 rfl ?_  -- law.go:124 fieldAddr[43] t5 .B(+2)
                refine x_ld rfl rfl ⟨_, rfl, rfl⟩ rfl (Loads.blk1 one_sl_uint8 hw (by repeat (first | with_reducible exact Pick.here | apply Pick.there)) rfl) ?_  -- law.go:124 load[23] t109
                refine x_call rfl rfl ⟨_, rfl, rfl⟩ cal_ref00_Kept rfl (ct_ref00_Kept (l := o.bl) hw (R := _) (by repeat (first | with_reducible exact Pick.here | apply Pick.there)) (hob.of (by repeat (first | exact Suf.refl _ | apply Suf.cons))) hob0) rfl (fun w v111 hv => ?_)  -- law.go:124 call f56 coppice/coppiceref00.Kept(t108, t110)
                obtain ⟨rfl, hw⟩ := hv
                refine x_pickT rfl rfl trivial rfl rfl rfl ?_  -- law.go:124 pick t107 ? t111 : False
                refine x_as rfl rfl trivial rfl ?_  -- law.go:124 assign t112
                refine xl_nil ?_
                refine x_ret ?_
                exact end1 rfl rfl ⟨rfl, by rw [hst]; exact (hw.bring (As := [blk b5 _ _, blk b92 _ _, dsk p _, rdk q _]) (by repeat (first | exact Bring.nil | (apply Bring.cons; repeat (first | with_reducible exact Pick.here | apply Pick.there))))).tail.tail⟩
              · -- no
                exact absurd rfl h8
            · -- no
              have hst : stepD D o = D := by unfold stepD; rw [if_neg h1, if_neg h3, if_neg h4, if_neg h5, if_neg h6, if_neg h7]
              refine x_seq ?_
              refine x_region rfl ?_
              refine x_mv rfl rfl trivial rfl ?_  -- law.go:126 move t0
              refine x_mv rfl rfl trivial rfl ?_  -- law.go:126 move t1
              refine x_ld rfl rfl trivial rfl (Loads.blkA many_coppicelaw06_Op (l := [.int .i64 o.kind, .int .i64 o.i, o.b, o.keep]) hw (by repeat (first | with_reducible exact Pick.here | apply Pick.there)) rfl) ?_  -- law.go:126 load[43] t5
              refine x_call rfl rfl trivial cal_law06_asks rfl (ct_law06_asks (o := o) (hw.bring (As := [dsk p D, rdk q D]) (by repeat (first | exact Bring.nil | (apply Bring.cons; repeat (first | with_reducible exact Pick.here | apply Pick.there))))) (ho.of (by repeat (first | exact Suf.refl _ | apply Suf.cons))) hcnt) rfl (fun w v21 hv => ?_)  -- law.go:126 call f68 coppice/coppicelaw06.asks(t18, t19, t20)
              obtain ⟨rfl, hw⟩ := hv
              refine x_as rfl rfl trivial rfl ?_  -- law.go:126 assign t21
              refine xl_nil ?_
              refine x_ret ?_
              exact end1 rfl rfl ⟨rfl, by rw [hst]; exact (hw.bring (As := [blk b5 _ _, dsk p _, rdk q _]) (by repeat (first | exact Bring.nil | (apply Bring.cons; repeat (first | with_reducible exact Pick.here | apply Pick.there))))).tail⟩
end
end Go.Proofs.Ytekilljcoplacaa.X
