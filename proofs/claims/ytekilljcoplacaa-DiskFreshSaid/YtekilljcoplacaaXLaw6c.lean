/- The helpers of the laws of layer 6: copyBools, run. -/
import Derived.Test.YtekilljcoplacaaXLaw6a
import Derived.Test.YtekilljcoplacaaXLaw6b
namespace Go.Proofs.Ytekilljcoplacaa.X
set_option linter.unusedVariables false
set_option linter.unusedSimpArgs false

/-- what a call does to a disk -/
def stepD (D : Dk) (o : OpV) : Dk :=
  if o.kind = 1 then (D.write o.i o.bl).2 else if o.kind = 2 then D.sync.2 else if o.kind = 3 then D.arm o.i else if o.kind = 4 then D.failed
  else if o.kind = 5 then D.onK o.kl else if o.kind = 10 then (D.lay o.i o.bl).2 else D
def runD (D : Dk) (os : List OpV) : Dk := os.foldl stepD D
theorem runD_snoc (D : Dk) {os : List OpV} {k : Nat} {o : OpV} (h : os[k]? = some o) : runD D (os.take (k + 1)) = stepD (runD D (os.take k)) o := by
  unfold runD
  rw [List.take_add_one, h]; simp
theorem stepD_cnt (D : Dk) (o : OpV) : (stepD D o).wrote ≤ D.wrote + 1 ∧ (stepD D o).synced ≤ D.synced + 1 := by
  unfold stepD
  split
  · unfold Dk.write; repeat' split
    all_goals simp [Dk.failed, Dk.wr]
  · split
    · unfold Dk.sync; repeat' split
      all_goals simp [Dk.failed, Dk.tick, Dk.settled]
    · split
      · unfold Dk.arm; split <;> simp
      · split
        · simp [Dk.failed]
        · split
          · unfold Dk.onK; split <;> simp
          · split
            · unfold Dk.lay; repeat' split
              all_goals simp
            · simp
theorem runD_cnt (D : Dk) : ∀ os : List OpV, (runD D os).wrote ≤ D.wrote + os.length ∧ (runD D os).synced ≤ D.synced + os.length := by
  intro os
  induction os generalizing D with
  | nil => simp [runD]
  | cons o os ih =>
    have h1 := ih (stepD D o)
    have h2 := stepD_cnt D o
    have h3 : runD D (o :: os) = runD (stepD D o) os := rfl
    rw [h3, List.length_cons]; omega

section
variable {G : Gh} {L R : List Assn} {w : World} {p : Nat} {D : Dk}

theorem ct_law06_copyBools {v : Value} {kl : List Bool} (hw : Sat G L w) (ka : Knows L (SlV v (bools kl))) (hll : kl.length ≤ 140737488355328) :
    Calls Try.prog 35 #[v] w (Ret fun r w' => Sat G (row 4 1 r kl.length (bools kl) :: L) w') := by
  obtain ⟨a, cap, rfl⟩ := ((ka.of (by repeat (first | exact Suf.refl _ | apply Suf.cons))).at hw).form
  rw [bools_length] at ka ⊢
  refine calls_of_x (args := [_]) func_law06_copyBools rfl nt_law06_copyBools rfl ?_
  refine x_seq ?_
  refine x_region rfl ?_
  refine x_as rfl rfl trivial rfl ?_  -- law.go:66 assign {'nilslice': 1}
  refine xl_nil ?_
  refine x_seq ?_
  refine x_region rfl ?_
  refine x_mv rfl rfl trivial rfl ?_  -- law.go:67 move t0
  refine x_len rfl rfl trivial rfl U_sl_bool rfl ?_  -- law.go:67 len(t5)
  refine x_mks rfl rfl trivial U_sl_bool sz_bool by_bool z_bool rfl rfl ⟨by omega, by omega⟩ (by omega) (by omega) hw rfl (fun w b7 hw => ?_)  -- law.go:67 makeSlice 41 6 6
  simp only [Int.toNat_natCast] at hw ⊢
  refine x_as rfl rfl trivial rfl ?_  -- law.go:67 assign t7
  refine xl_nil ?_
  refine x_seq ?_
  refine x_seq ?_
  refine x_region rfl ?_
  refine x_as rfl rfl trivial rfl ?_  -- law.go:68 assign 0
  refine xl_nil ?_
  refine x_block ?_
  refine x_loop (fun m e w => ∃ (k : Nat) (cs : List Value), k ≤ kl.length ∧ m = kl.length - k ∧ e = [(0, .slice a kl.length cap), (3, .slice (some ⟨b7, 0, none⟩) kl.length kl.length), (4, .int .i64 k)] ∧ cs.length = kl.length ∧ (∀ j, j < k → cs[j]? = some (.bool (kl.getD j false))) ∧ Sat G (blk b7 cs 4 :: L) w)
    (m := kl.length) (e₀ := [(0, .slice a kl.length cap), (3, .slice (some ⟨b7, 0, none⟩) kl.length kl.length), (4, .int .i64 (0 : Nat))]) (by repeat (first | exact Sub.nil _ | refine Sub.cons rfl ?_))
    ⟨0, _, Nat.zero_le _, rfl, rfl, by rw [rep_length], (fun j h => by omega), hw⟩ ?_
  rintro m e w ⟨k, cs, hk, rfl, rfl, hcs, hci, hw⟩
  refine x_seq ?_
  refine x_seq ?_
  refine x_region rfl ?_
  refine x_mv rfl rfl trivial rfl ?_  -- law.go:68 move t4
  refine x_mv rfl rfl trivial rfl ?_  -- law.go:68 move t0
  refine x_len rfl rfl trivial rfl U_sl_bool rfl ?_  -- law.go:68 len(t9)
  refine x_lt rfl rfl trivial rfl rfl ?_  -- law.go:68 lss[3] t8 t10
  refine xl_nil ?_
  refine x_if rfl (fun h1 => ?_) (fun h1 => ?_)
  · -- yes
    have hk' : k < kl.length := by omega
    obtain ⟨b', o', rfl⟩ := ((ka.of (by repeat (first | exact Suf.refl _ | apply Suf.cons))).at hw).nn (by rw [bools_length]; omega)
    have hget : (bools kl)[(k : Int).toNat]? = some (.bool (kl.getD k false)) := by simp [bools, hk']
    refine x_skip ?_
    refine x_seq ?_
    refine x_block ?_
    refine x_region rfl ?_
    refine x_mv rfl rfl trivial rfl ?_  -- law.go:69 move t3
    refine x_mv rfl rfl trivial rfl ?_  -- law.go:69 move t4
    refine x_mv rfl rfl trivial rfl ?_  -- law.go:69 move t0
    refine x_mv rfl rfl trivial rfl ?_  -- law.go:69 move t4
    refine x_idx1 rfl rfl trivial U_sl_bool sz_bool rfl rfl ⟨by omega, by omega⟩ ?_  -- law.go:69 indexAddr[41] t16 [t17] 
    refine x_ld rfl rfl trivial rfl (Loads.one one_bool (((ka.of (by repeat (first | exact Suf.refl _ | apply Suf.cons))).at hw).at hget)) ?_  -- law.go:69 load[4] t18
    refine x_idx1 rfl rfl trivial U_sl_bool sz_bool rfl rfl ⟨by omega, by omega⟩ ?_  -- law.go:69 indexAddr[41] t14 [t15] 
    -- law.go:69 store[4] t20 := t19
    refine x_st1 (l' := cs.set k (.bool (kl.getD k false))) rfl trivial rfl rfl one_bool rfl hw (by repeat (first | with_reducible exact Pick.here | apply Pick.there)) (by simp; omega) (by rw [Int.toNat_natCast, Nat.zero_add]) rfl (fun w hw => ?_)
    refine xl_nil ?_
    refine x_region rfl ?_
    refine x_mv rfl rfl trivial rfl ?_  -- law.go:68 move t4
    refine x_addi rfl rfl trivial rfl rfl (by omega) ?_  -- law.go:68 add[3] t12 1
    refine x_as rfl rfl trivial rfl ?_  -- law.go:68 assign t13
    refine xl_nil ?_
    refine ⟨kl.length - (k + 1), by omega, [(0, _), (3, _), (4, .int .i64 (k + 1 : Nat))], (by repeat (first | exact Sub.nil _ | refine Sub.cons rfl ?_)), k + 1, _, by omega, rfl, rfl, by rw [List.length_set]; exact hcs, fun j hj => ?_, hw⟩
    by_cases hjk : k = j
    · subst hjk; simp [hcs, hk']
    · rw [List.getElem?_set_ne hjk]; exact hci j (by omega)
  · -- no
    refine x_exit rfl ?_  -- exit 0
    refine x_seq ?_
    refine x_region rfl ?_
    refine x_mv rfl rfl trivial rfl ?_  -- law.go:71 move t3
    refine x_as rfl rfl trivial rfl ?_  -- law.go:71 assign t21
    refine xl_nil ?_
    refine x_ret ?_
    exact end1 rfl rfl (by
  have hkk : k = kl.length := by omega
  have hcb : cs = bools kl := by
    apply List.ext_getElem?
    intro j
    by_cases hj : j < kl.length
    · rw [hci j (by omega)]; simp [bools, hj]
    · rw [List.getElem?_eq_none (by omega), List.getElem?_eq_none (by rw [bools_length]; omega)]
  subst hcb
  exact row_full (z := 1) hw (by rw [bools_length]; omega) (by simp only [maxLen]; omega))

theorem rowV {L R : List Assn} {T n : Nat} {v : Value} {l : List Bool} (hn : l.length = n) (q : Pick (row T 1 v n (bools l)) L R) : Knows L (SlV v (bools l)) := by
  subst hn
  have h : Knows [row T 1 v (bools l).length (bools l)] (SlV v (bools l)) := SlV.row
  rw [bools_length] at h
  exact (h.head _).pick q

theorem ct_Off (hw : Sat G (dsk p D :: L) w) : Calls Try.prog 33 #[.pointer (some ⟨p, 0, none⟩)] w (Ret fun r w' => r = .tuple #[] ∧ Sat G (dsk p D.failed :: L) w') := by
  obtain ⟨hok, ml, ms, sv, kl, ks, hl, hs, hw⟩ := dsk_open hw
  simp only [dparts, dcells, List.cons_append, List.nil_append] at hw
  exact (ct_disk_Disk_Off hw).mono fun e w' h => by
    obtain ⟨v, rfl, rfl, hw⟩ := h
    exact ⟨_, rfl, rfl, dsk_shut (D := D.failed) hok.failed hl hs hw⟩

theorem ct_law06_run {a : Option Addr} {cap : Nat} {os : List OpV} (hw : Sat G (dsk p D :: L) w) (hsl : Knows L (SlO (.slice a os.length cap) os)) (hok : ∀ o ∈ os, o.Ok L) (hln : os.length ≤ 60) (hc : D.wrote ≤ 1000000 ∧ D.synced ≤ 1000000) :
    Calls Try.prog 32 #[.pointer (some ⟨p, 0, none⟩), .slice a os.length cap] w (Ret fun r w' => r = .tuple #[] ∧ Sat G (dsk p (runD D os) :: L) w') := by
  refine calls_of_x (args := [_, _]) func_law06_run rfl nt_law06_run rfl ?_
  refine x_seq ?_
  refine x_region rfl ?_
  refine x_as rfl rfl trivial rfl ?_  -- law.go:185 assign 0
  refine xl_nil ?_
  refine x_block ?_
  refine x_loop (fun m e w => ∃ k : Nat, k ≤ os.length ∧ m = os.length - k ∧ e = [(0, .pointer (some ⟨p, 0, none⟩)), (1, .slice a os.length cap), (4, .int .i64 k)] ∧ Sat G (dsk p (runD D (os.take k)) :: L) w)
    (m := os.length) (e₀ := [(0, .pointer (some ⟨p, 0, none⟩)), (1, .slice a os.length cap), (4, .int .i64 (0 : Nat))]) (by repeat (first | exact Sub.nil _ | refine Sub.cons rfl ?_))
    ⟨0, Nat.zero_le _, rfl, rfl, hw⟩ ?_
  rintro m e w ⟨k, hk, rfl, rfl, hw⟩
  refine x_seq ?_
  refine x_seq ?_
  refine x_region rfl ?_
  refine x_mv rfl rfl trivial rfl ?_  -- law.go:185 move t4
  refine x_mv rfl rfl trivial rfl ?_  -- law.go:185 move t1
  refine x_len rfl rfl trivial rfl U_sl_coppicelaw06_Op rfl ?_  -- law.go:185 len(t7)
  refine x_lt rfl rfl trivial rfl rfl ?_  -- law.go:185 lss[3] t6 t8
  refine xl_nil ?_
  refine x_if rfl (fun h1 => ?_) (fun h1 => ?_)
  · -- yes
    have hk' : k < os.length := by omega
    obtain ⟨o, ho⟩ : ∃ o, os[k]? = some o := ⟨_, List.getElem?_eq_getElem hk'⟩
    have hoo := hok o (List.mem_of_getElem? ho)
    have hob := hoo.b
    have hok2 := hoo.keep
    have hoz : Knows L (fun _ => Ones o.cells) := fun g w h => OpV.ones hoo h
    obtain ⟨b, f, rfl⟩ := ((hsl.of (by repeat (first | exact Suf.refl _ | apply Suf.cons))).at hw).nn (by omega)
    have hcnt := runD_cnt D (os.take k)
    have htl : (os.take k).length ≤ 60 := by rw [List.length_take]; omega
    have hsn := runD_snoc D ho
    generalize runD D (os.take k) = E at hw hcnt hsn
    refine x_skip ?_
    refine x_seq ?_
    refine x_block ?_
    refine x_seq ?_
    refine x_region rfl ?_
    refine x_mv rfl rfl trivial rfl ?_  -- law.go:186 move t1
    refine x_mv rfl rfl trivial rfl ?_  -- law.go:186 move t4
    refine x_idx rfl rfl trivial U_sl_coppicelaw06_Op sz_coppicelaw06_Op rfl rfl ⟨by omega, by omega⟩ ?_  -- law.go:186 indexAddr[38] t12 [t13] 
    refine x_ld rfl rfl trivial rfl (Loads.many many_coppicelaw06_Op rfl (((hsl.of (by repeat (first | exact Suf.refl _ | apply Suf.cons))).at hw).at ho)) ?_  -- law.go:186 load[43] t14
    refine x_alloc rfl rfl trivial z_coppicelaw06_Op hw rfl (fun w b5 hw => ?_)  -- law.go:186 alloc 43
    -- law.go:186 store[43] t5 := t15
    refine x_stN (cs := o.cells) (l' := o.cells) rfl trivial rfl rfl many_coppicelaw06_Op rfl ((hoz.of (by repeat (first | exact Suf.refl _ | apply Suf.cons))).at hw) hw (by repeat (first | with_reducible exact Pick.here | apply Pick.there)) (by simp) rfl rfl (fun w hw => ?_)
    simp only [OpV.cells] at hw
    refine xl_nil ?_
    refine x_seq ?_
    refine x_region rfl ?_
    refine x_fld rfl rfl trivial fo_coppicelaw06_Op_0 rfl ?_  -- law.go:187 fieldAddr[43] t5 .Kind(+0)
    refine x_ld rfl rfl trivial rfl (Loads.blk1 one_int hw (by repeat (first | with_reducible exact Pick.here | apply Pick.there)) rfl) ?_  -- law.go:187 load[3] t16
    refine xl_nil ?_
    refine x_block ?_
    refine x_seq ?_
    refine x_region rfl ?_
    refine x_eq rfl rfl trivial rfl rfl rfl ?_  -- law.go:188 eql[3] t17 1
    refine x_as rfl rfl trivial rfl ?_  -- law.go:188 assign t19
    refine xl_nil ?_
    refine x_if rfl (fun h2 => ?_) (fun h2 => ?_)
    · -- yes
      refine x_draw [0, 1, 2, 3, 4, 5, 6] mixed (by kernel_rfl) ?_  -- region 6
      replace hw := hw.drawn (w.drawn + 1)
      refine x_mv rfl rfl trivial rfl ?_  -- law.go:189 move t0
      refine x_fld rfl rfl trivial fo_coppicelaw06_Op_1 rfl ?_  -- law.go:189 fieldAddr[43] t5 .I(+1)
      refine x_ld rfl rfl trivial rfl (Loads.blk1 one_int hw (by repeat (first | with_reducible exact Pick.here | apply Pick.there)) rfl) ?_  -- law.go:189 load[3] t21
      refine x_fld rfl rfl trivial fo_coppicelaw06_Op_2 rfl ?_  -- law.go:189 fieldAddr[43] t5 .B(+2)
      refine x_ld rfl rfl trivial rfl (Loads.blk1 one_sl_uint8 hw (by repeat (first | with_reducible exact Pick.here | apply Pick.there)) rfl) ?_  -- law.go:189 load[23] t23
      -- law.go:189 call f15 coppice/coppiceref00.CopyBytes(t24)
      refine x_callP rfl rfl trivial cal_ref00_CopyBytes rfl (ct_ref00_CopyBytes (l := o.bl) hw (hob.of (by repeat (first | exact Suf.refl _ | apply Suf.cons))) hoo.bl) (fun w v hw q' hq => ?_) (fun w v25 hw => ?_)
      · obtain rfl := pend_one (q0 := 2) (by kernel_rfl) hq
        exact chk_ld rfl rfl rfl (Loads.blk1 one_int hw (by repeat (first | with_reducible exact Pick.here | apply Pick.there)) rfl)
      refine x_call rfl rfl trivial cal_disk_Disk_Write rfl (ct_disk_Disk_Write (D := E) (v := v25) (l := o.bl) (hw.pick (A := dsk p E) (by repeat (first | with_reducible exact Pick.here | apply Pick.there))) (rowB rfl (by repeat (first | with_reducible exact Pick.here | apply Pick.there))) hoo.bl (by omega)) (by kernel_rfl) (fun w v26 hv => ?_)  -- law.go:189 call f25 (*coppice/disk.Disk).Write(t20, t22, t25)
      obtain ⟨-, hw⟩ := hv
      have hst : stepD E o = (E.write o.i o.bl).2 := by unfold stepD; rw [if_pos h2]
      have hw := (hw.drop (.there .here)).drop (.there .here)
      refine xl_nil ?_
      refine x_region rfl ?_
      refine x_mv rfl rfl trivial rfl ?_  -- law.go:185 move t4
      refine x_addi rfl rfl trivial rfl rfl (by omega) ?_  -- law.go:185 add[3] t10 1
      refine x_as rfl rfl trivial rfl ?_  -- law.go:185 assign t11
      refine xl_nil ?_
      exact ⟨os.length - (k + 1), by omega, [(0, _), (1, _), (4, .int .i64 (k + 1 : Nat))], (by repeat (first | exact Sub.nil _ | refine Sub.cons rfl ?_)), k + 1, by omega, rfl, rfl, by rw [hsn, hst]; exact hw⟩
    · -- no
      refine x_seq ?_
      refine x_region rfl ?_
      refine x_eq rfl rfl trivial rfl rfl rfl ?_  -- law.go:190 eql[3] t17 2
      refine x_as rfl rfl trivial rfl ?_  -- law.go:190 assign t28
      refine xl_nil ?_
      refine x_if rfl (fun h3 => ?_) (fun h3 => ?_)
      · -- yes
        refine x_region rfl ?_
        refine x_mv rfl rfl trivial rfl ?_  -- law.go:191 move t0
        refine x_call rfl rfl trivial cal_disk_Disk_Sync rfl (ct_disk_Disk_Sync (D := E) (hw.pick (A := dsk p E) (by repeat (first | with_reducible exact Pick.here | apply Pick.there))) (by omega) (by omega)) rfl (fun w v30 hv => ?_)  -- law.go:191 call f24 (*coppice/disk.Disk).Sync(t29)
        obtain ⟨-, hw⟩ := hv
        have hst : stepD E o = E.sync.2 := by unfold stepD; rw [if_neg h2, if_pos h3]
        have hw := hw.drop (.there .here)
        refine xl_nil ?_
        refine x_region rfl ?_
        refine x_mv rfl rfl trivial rfl ?_  -- law.go:185 move t4
        refine x_addi rfl rfl trivial rfl rfl (by omega) ?_  -- law.go:185 add[3] t10 1
        refine x_as rfl rfl trivial rfl ?_  -- law.go:185 assign t11
        refine xl_nil ?_
        exact ⟨os.length - (k + 1), by omega, [(0, _), (1, _), (4, .int .i64 (k + 1 : Nat))], (by repeat (first | exact Sub.nil _ | refine Sub.cons rfl ?_)), k + 1, by omega, rfl, rfl, by rw [hsn, hst]; exact hw⟩
      · -- no
        refine x_seq ?_
        refine x_region rfl ?_
        refine x_eq rfl rfl trivial rfl rfl rfl ?_  -- law.go:192 eql[3] t17 3
        refine x_as rfl rfl trivial rfl ?_  -- law.go:192 assign t32
        refine xl_nil ?_
        refine x_if rfl (fun h4 => ?_) (fun h4 => ?_)
        · -- yes
          refine x_region rfl ?_
          refine x_mv rfl rfl trivial rfl ?_  -- law.go:193 move t0
          refine x_fld rfl rfl trivial fo_coppicelaw06_Op_1 rfl ?_  -- law.go:193 fieldAddr[43] t5 .I(+1)
          refine x_ld rfl rfl trivial rfl (Loads.blk1 one_int hw (by repeat (first | with_reducible exact Pick.here | apply Pick.there)) rfl) ?_  -- law.go:193 load[3] t34
          refine x_call rfl rfl trivial cal_disk_Disk_Arm rfl (ct_disk_Disk_Arm (D := E) (hw.pick (A := dsk p E) (by repeat (first | with_reducible exact Pick.here | apply Pick.there))) hoo.i.2) rfl (fun w v36 hv => ?_)  -- law.go:193 call f23 (*coppice/disk.Disk).Arm(t33, t35)
          obtain ⟨-, hw⟩ := hv
          have hst : stepD E o = E.arm o.i := by unfold stepD; rw [if_neg h2, if_neg h3, if_pos h4]
          have hw := hw.drop (.there .here)
          refine xl_nil ?_
          refine x_region rfl ?_
          refine x_mv rfl rfl trivial rfl ?_  -- law.go:185 move t4
          refine x_addi rfl rfl trivial rfl rfl (by omega) ?_  -- law.go:185 add[3] t10 1
          refine x_as rfl rfl trivial rfl ?_  -- law.go:185 assign t11
          refine xl_nil ?_
          exact ⟨os.length - (k + 1), by omega, [(0, _), (1, _), (4, .int .i64 (k + 1 : Nat))], (by repeat (first | exact Sub.nil _ | refine Sub.cons rfl ?_)), k + 1, by omega, rfl, rfl, by rw [hsn, hst]; exact hw⟩
        · -- no
          refine x_seq ?_
          refine x_region rfl ?_
          refine x_eq rfl rfl trivial rfl rfl rfl ?_  -- law.go:194 eql[3] t17 4
          refine x_as rfl rfl trivial rfl ?_  -- law.go:194 assign t38
          refine xl_nil ?_
          refine x_if rfl (fun h5 => ?_) (fun h5 => ?_)
          · -- yes
            refine x_region rfl ?_
            refine x_mv rfl rfl trivial rfl ?_  -- law.go:195 move t0
            refine x_call rfl rfl trivial cal_disk_Disk_Off rfl (ct_Off (D := E) (hw.pick (A := dsk p E) (by repeat (first | with_reducible exact Pick.here | apply Pick.there)))) rfl (fun w v40 hv => ?_)  -- law.go:195 call f33 (*coppice/disk.Disk).Off(t39)
            obtain ⟨-, hw⟩ := hv
            have hst : stepD E o = E.failed := by unfold stepD; rw [if_neg h2, if_neg h3, if_neg h4, if_pos h5]
            have hw := hw.drop (.there .here)
            refine xl_nil ?_
            refine x_region rfl ?_
            refine x_mv rfl rfl trivial rfl ?_  -- law.go:185 move t4
            refine x_addi rfl rfl trivial rfl rfl (by omega) ?_  -- law.go:185 add[3] t10 1
            refine x_as rfl rfl trivial rfl ?_  -- law.go:185 assign t11
            refine xl_nil ?_
            exact ⟨os.length - (k + 1), by omega, [(0, _), (1, _), (4, .int .i64 (k + 1 : Nat))], (by repeat (first | exact Sub.nil _ | refine Sub.cons rfl ?_)), k + 1, by omega, rfl, rfl, by rw [hsn, hst]; exact hw⟩
          · -- no
            refine x_seq ?_
            refine x_region rfl ?_
            refine x_eq rfl rfl trivial rfl rfl rfl ?_  -- law.go:196 eql[3] t17 5
            refine x_as rfl rfl trivial rfl ?_  -- law.go:196 assign t42
            refine xl_nil ?_
            refine x_if rfl (fun h6 => ?_) (fun h6 => ?_)
            · -- yes
              refine x_region rfl ?_
              refine x_mv rfl rfl trivial rfl ?_  -- law.go:197 move t0
              refine x_fld rfl rfl trivial fo_coppicelaw06_Op_3 rfl ?_  -- law.go:197 fieldAddr[43] t5 .Keep(+3)
              refine x_ld rfl rfl trivial rfl (Loads.blk1 one_sl_bool hw (by repeat (first | with_reducible exact Pick.here | apply Pick.there)) rfl) ?_  -- law.go:197 load[41] t44
              refine x_call rfl rfl trivial cal_law06_copyBools rfl (ct_law06_copyBools (kl := o.kl) hw (hok2.of (by repeat (first | exact Suf.refl _ | apply Suf.cons))) hoo.kl) rfl (fun w v46 hv => ?_)  -- law.go:197 call f35 coppice/coppicelaw06.copyBools(t45)
              have hw := hv
              refine x_call rfl rfl trivial cal_disk_Disk_On rfl (ct_disk_Disk_On (D := E) (kl := o.kl) (hw.pick (A := dsk p E) (by repeat (first | with_reducible exact Pick.here | apply Pick.there))) (rowV rfl (by repeat (first | with_reducible exact Pick.here | apply Pick.there))) (by omega)) rfl (fun w v47 hv => ?_)  -- law.go:197 call f34 (*coppice/disk.Disk).On(t43, t46)
              obtain ⟨-, hw⟩ := hv
              have hst : stepD E o = E.onK o.kl := by unfold stepD; rw [if_neg h2, if_neg h3, if_neg h4, if_neg h5, if_pos h6]
              have hw := (hw.drop (.there .here)).drop (.there .here)
              refine xl_nil ?_
              refine x_region rfl ?_
              refine x_mv rfl rfl trivial rfl ?_  -- law.go:185 move t4
              refine x_addi rfl rfl trivial rfl rfl (by omega) ?_  -- law.go:185 add[3] t10 1
              refine x_as rfl rfl trivial rfl ?_  -- law.go:185 assign t11
              refine xl_nil ?_
              exact ⟨os.length - (k + 1), by omega, [(0, _), (1, _), (4, .int .i64 (k + 1 : Nat))], (by repeat (first | exact Sub.nil _ | refine Sub.cons rfl ?_)), k + 1, by omega, rfl, rfl, by rw [hsn, hst]; exact hw⟩
            · -- no
              refine x_seq ?_
              refine x_region rfl ?_
              refine x_eq rfl rfl trivial rfl rfl rfl ?_  -- law.go:198 eql[3] t17 10
              refine x_as rfl rfl trivial rfl ?_  -- law.go:198 assign t49
              refine xl_nil ?_
              refine x_if rfl (fun h7 => ?_) (fun h7 => ?_)
              · -- yes
                refine x_draw [0, 1, 2, 3, 4, 5, 6] mixed (by kernel_rfl) ?_  -- region 16
                replace hw := hw.drawn (w.drawn + 1)
                refine x_mv rfl rfl trivial rfl ?_  -- law.go:199 move t0
                refine x_fld rfl rfl trivial fo_coppicelaw06_Op_1 rfl ?_  -- law.go:199 fieldAddr[43] t5 .I(+1)
                refine x_ld rfl rfl trivial rfl (Loads.blk1 one_int hw (by repeat (first | with_reducible exact Pick.here | apply Pick.there)) rfl) ?_  -- law.go:199 load[3] t51
                refine x_fld rfl rfl trivial fo_coppicelaw06_Op_2 rfl ?_  -- law.go:199 fieldAddr[43] t5 .B(+2)
                refine x_ld rfl rfl trivial rfl (Loads.blk1 one_sl_uint8 hw (by repeat (first | with_reducible exact Pick.here | apply Pick.there)) rfl) ?_  -- law.go:199 load[23] t53
                -- law.go:199 call f15 coppice/coppiceref00.CopyBytes(t54)
                refine x_callP rfl rfl trivial cal_ref00_CopyBytes rfl (ct_ref00_CopyBytes (l := o.bl) hw (hob.of (by repeat (first | exact Suf.refl _ | apply Suf.cons))) hoo.bl) (fun w v hw q' hq => ?_) (fun w v55 hw => ?_)
                · obtain rfl := pend_one (q0 := 2) (by kernel_rfl) hq
                  exact chk_ld rfl rfl rfl (Loads.blk1 one_int hw (by repeat (first | with_reducible exact Pick.here | apply Pick.there)) rfl)
                refine x_call rfl rfl trivial cal_disk_Disk_Lay rfl (ct_disk_Disk_Lay (D := E) (v := v55) (l := o.bl) (hw.pick (A := dsk p E) (by repeat (first | with_reducible exact Pick.here | apply Pick.there))) (rowB rfl (by repeat (first | with_reducible exact Pick.here | apply Pick.there)))) (by kernel_rfl) (fun w v56 hv => ?_)  -- law.go:199 call f38 (*coppice/disk.Disk).Lay(t50, t52, t55)
                obtain ⟨-, hw⟩ := hv
                have hst : stepD E o = (E.lay o.i o.bl).2 := by unfold stepD; rw [if_neg h2, if_neg h3, if_neg h4, if_neg h5, if_neg h6, if_pos h7]
                have hw := (hw.drop (.there .here)).drop (.there .here)
                refine xl_nil ?_
                refine x_region rfl ?_
                refine x_mv rfl rfl trivial rfl ?_  -- law.go:185 move t4
                refine x_addi rfl rfl trivial rfl rfl (by omega) ?_  -- law.go:185 add[3] t10 1
                refine x_as rfl rfl trivial rfl ?_  -- law.go:185 assign t11
                refine xl_nil ?_
                exact ⟨os.length - (k + 1), by omega, [(0, _), (1, _), (4, .int .i64 (k + 1 : Nat))], (by repeat (first | exact Sub.nil _ | refine Sub.cons rfl ?_)), k + 1, by omega, rfl, rfl, by rw [hsn, hst]; exact hw⟩
              · -- no
                have hst : stepD E o = E := by unfold stepD; rw [if_neg h2, if_neg h3, if_neg h4, if_neg h5, if_neg h6, if_neg h7]
                have hw := hw.tail
                refine x_skip ?_
                refine x_region rfl ?_
                refine x_mv rfl rfl trivial rfl ?_  -- law.go:185 move t4
                refine x_addi rfl rfl trivial rfl rfl (by omega) ?_  -- law.go:185 add[3] t10 1
                refine x_as rfl rfl trivial rfl ?_  -- law.go:185 assign t11
                refine xl_nil ?_
                exact ⟨os.length - (k + 1), by omega, [(0, _), (1, _), (4, .int .i64 (k + 1 : Nat))], (by repeat (first | exact Sub.nil _ | refine Sub.cons rfl ?_)), k + 1, by omega, rfl, rfl, by rw [hsn, hst]; exact hw⟩
  · -- no
    have hkk : k = os.length := by omega
    subst hkk
    rw [List.take_length] at hw
    refine x_exit rfl ?_  -- exit 0
    exact end0 rfl ⟨rfl, hw⟩
end
end Go.Proofs.Ytekilljcoplacaa.X
