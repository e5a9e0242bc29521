/- The disk of the program: On, Lay, Unsynced. -/
import Derived.Test.YtekilljcoplacaaXDisk3
namespace Go.Proofs.Ytekilljcoplacaa.X
set_option linter.unusedVariables false
set_option linter.unusedSimpArgs false

def bools (l : List Bool) : List Value := l.map .bool
theorem bools_length (l : List Bool) : (bools l).length = l.length := by simp [bools]
/-- what On is told of the write 'k' -/
def keepQ (kl : List Bool) (k : Nat) : Bool := kl.getD k false
def Dk.onK (D : Dk) (kl : List Bool) : Dk := if D.on then D else ⟨settleL (keepQ kl) D.ws 0 D.lasts, [], true, D.alarm, D.wrote, D.synced⟩
def Dk.lay (D : Dk) (i : Int) (l : Bys) : Bool × Dk :=
  if D.on = true then (false, D) else if ¬ (0 ≤ i ∧ i < D.lasts.length) then (false, D) else if l.length ≠ 512 then (false, D) else (true, ⟨D.lasts.set i.toNat l, D.ws, D.on, D.alarm, D.wrote, D.synced⟩)

section
variable {G : Gh} {L R : List Assn} {w : World} {p : Nat} {D : Dk}

theorem ct_disk_Disk_On_1 {v : Value} {kl : List Bool} {b k : Nat} (hw : Sat G L w) (hp : Pick (blk b [v] 41) L R) (ka : Knows L (SlV v (bools kl))) :
    Calls Try.prog 58 #[.int .i64 k, .pointer (some ⟨b, 0, none⟩)] w (Ret fun r w' => r = .bool (keepQ kl k) ∧ Sat G L w') := by
  obtain ⟨a, cap, rfl⟩ := (ka.at hw).form
  refine calls_of_x (args := [_, _]) func_disk_Disk_On_1 rfl nt_disk_Disk_On_1 rfl ?_
  refine x_seq ?_
  refine x_region rfl ?_
  refine x_as rfl rfl trivial rfl ?_  -- disk.go:156 assign False
  refine xl_nil ?_
  refine x_seq ?_
  refine x_region rfl ?_
  refine x_mv rfl rfl trivial rfl ?_  -- disk.go:156 move t0
  refine x_ld rfl rfl trivial rfl (Loads.blk1 one_sl_bool hw hp rfl) ?_  -- disk.go:156 load[41] t1
  refine x_len rfl rfl trivial rfl U_sl_bool rfl ?_  -- disk.go:156 len(t5)
  refine x_lt rfl rfl trivial rfl rfl ?_  -- disk.go:156 lss[3] t4 t6
  refine x_mv rfl rfl trivial rfl ?_  -- disk.go:156 move t7
  refine xl_split (d := 8) rfl (fun h1 => ?_) (fun h1 => ?_)
  · -- yes
    rw [bools_length] at h1
    obtain ⟨b', o', rfl⟩ := (ka.at hw).nn (by rw [bools_length]; omega)
    have hget : (bools kl)[(k : Int).toNat]? = some (.bool (kl.getD k false)) := by
      have : k < kl.length := by omega
      simp [bools, this]
    refine x_ld rfl rfl ⟨_, rfl, rfl⟩ rfl (Loads.blk1 one_sl_bool hw hp rfl) ?_  -- disk.go:156 load[41] t1
    refine x_mv rfl rfl ⟨_, rfl, rfl⟩ rfl ?_  -- disk.go:156 move t0
    -- disk.go:156 indexAddr[41] t9 [t10] 
    refine x_idx1 rfl rfl ⟨_, rfl, rfl⟩ U_sl_bool sz_bool rfl rfl ⟨by omega, by rw [bools_length]; omega⟩ ?_
    refine x_ld rfl rfl ⟨_, rfl, rfl⟩ rfl (Loads.one one_bool ((ka.at hw).at hget)) ?_  -- disk.go:156 load[4] t11
    refine x_pickT rfl rfl trivial rfl rfl rfl ?_  -- disk.go:156 pick t8 ? t12 : False
    refine x_as rfl rfl trivial rfl ?_  -- disk.go:156 assign t13
    refine xl_nil ?_
    refine x_ret ?_
    exact end1 rfl rfl ⟨rfl, hw⟩
  · -- no
    rw [bools_length] at h1
    have hq : keepQ kl k = false := by
      have : kl.length ≤ k := by omega
      simp [keepQ, this]
    refine xl_no rfl rfl rfl rfl rfl rfl ?_  -- passed over: load[41] t1
    refine xl_no rfl rfl rfl rfl rfl rfl ?_  -- passed over: move t0
    refine xl_no rfl rfl rfl rfl rfl rfl ?_  -- passed over: indexAddr[41] t9 [t10] 
    refine xl_no rfl rfl rfl rfl rfl rfl ?_  -- passed over: load[4] t11
    refine x_pickF rfl rfl trivial rfl rfl rfl ?_  -- disk.go:156 pick t8 ? t12 : False
    refine x_as rfl rfl trivial rfl ?_  -- disk.go:156 assign t13
    refine xl_nil ?_
    refine x_ret ?_
    exact end1 rfl rfl ⟨by rw [hq], hw⟩

theorem Dk.Ok.onK (h : D.Ok) (kl : List Bool) : (D.onK kl).Ok := by
  unfold Dk.onK
  split
  · exact h
  · have h2 := h.settled (keepQ kl)
    exact ⟨h2.lo, h2.hi, h2.blk, h2.ws, h2.alarm, (fun h => by cases h), h2.cnt⟩

theorem says_on {v : Value} {kl : List Bool} {b m : Nat} (ka : Knows L (SlV v (bools kl))) : Says 58 #[] #[.pointer (some ⟨b, 0, none⟩)] (keepQ kl) (blk b [v] 41 :: L) m :=
  fun g k M w _ h => ct_disk_Disk_On_1 (b := b) (k := k) (v := v) (kl := kl) h (Pick.here.app M) (Knows.app (ka.cons _) M)

theorem ct_disk_Disk_On {v : Value} {kl : List Bool} (hw : Sat G (dsk p D :: L) w) (ka : Knows L (SlV v (bools kl))) (hcnt : D.wrote < 1000000000) :
    Calls Try.prog 34 #[.pointer (some ⟨p, 0, none⟩), v] w (Ret fun r w' => r = .tuple #[] ∧ Sat G (dsk p (D.onK kl) :: L) w') := by
  obtain ⟨a, cap, rfl⟩ := ((ka.of (by repeat (first | exact Suf.refl _ | apply Suf.cons))).at hw).form
  obtain ⟨hok, ml, ms, sv, kl', ks, hl, hs, hw⟩ := dsk_open hw
  simp only [dparts, dcells, List.cons_append, List.nil_append] at hw
  refine calls_of_x (args := [_, _]) func_disk_Disk_On rfl nt_disk_Disk_On rfl ?_
  refine x_seq ?_
  refine x_region rfl ?_
  refine x_box rfl rfl trivial rfl rfl hw rfl (fun w b3 hw => ?_)  -- disk.go:152 box[41] t1
  refine xl_nil ?_
  refine x_seq ?_
  refine x_seq ?_
  refine x_region rfl ?_
  refine x_mv rfl rfl trivial rfl ?_  -- disk.go:153 move t0
  refine x_nc rfl rfl trivial rfl ?_  -- disk.go:153 nilCheck t4
  refine x_fld rfl rfl trivial fo_disk_Disk_4 rfl ?_  -- disk.go:153 fieldAddr[86] t5 .on(+4)
  refine x_ld rfl rfl trivial rfl (Loads.blk1 one_bool hw (by repeat (first | with_reducible exact Pick.here | apply Pick.there)) rfl) ?_  -- disk.go:153 load[4] t6
  refine xl_nil ?_
  refine x_cond rfl (fun h1 => ?_) (fun h1 => ?_)
  · -- yes
    refine x_ret ?_
    exact end0 rfl (by unfold Dk.onK; rw [if_pos h1]; exact ⟨rfl, dsk_shut hok hl hs hw.tail⟩)
  · -- no
    have h := hw.picks (As := [blk p _ _, mapI ml _, mapI ms _, row _ _ _ _ _]) (by repeat (first | exact Picks.nil | (apply Picks.cons; repeat (first | with_reducible exact Pick.here | apply Pick.there))))
    have hw := dsk_shut (D := D) (ml := ml) (ms := ms) (sv := sv) hok hl hs h
    refine x_skip ?_
    refine x_seq ?_
    refine x_region rfl ?_
    refine x_mv rfl rfl trivial rfl ?_  -- disk.go:156 move t0
    -- disk.go:156 makeFunc [] [3]
    refine x_mkf (v1 := #[]) (v2 := #[.pointer (some ⟨b3, 0, none⟩)]) rfl rfl trivial (by intro z hz; simp at hz; subst hz; exact ⟨_, rfl⟩) (by simp) (by simp only [List.map_toArray, List.map_cons, List.map_nil]; rfl) ?_
    refine x_call rfl rfl trivial cal_disk_Disk_settle rfl (ct_disk_Disk_settle (q := keepQ kl) (f := 58) (c1 := #[]) (c2 := #[.pointer (some ⟨b3, 0, none⟩)]) hw cal_disk_Disk_On_1 (says_on ka) hcnt) rfl (fun w v10 hv => ?_)  -- disk.go:156 call f52 (*coppice/disk.Disk).settle(t8, t9)
    obtain ⟨-, hw⟩ := hv
    obtain ⟨hok', ml, ms, sv, kl', ks, hl, hs, hw⟩ := dsk_open hw
    simp only [dparts, dcells, List.cons_append, List.nil_append] at hw
    refine xl_nil ?_
    refine x_region rfl ?_
    refine x_mv rfl rfl trivial rfl ?_  -- disk.go:157 move t0
    refine x_nc rfl rfl trivial rfl ?_  -- disk.go:157 nilCheck t11
    refine x_fld rfl rfl trivial fo_disk_Disk_4 rfl ?_  -- disk.go:157 fieldAddr[86] t12 .on(+4)
    refine x_st1 (l' := [_, _, _, _, _, _, _, _]) rfl trivial rfl rfl one_bool rfl hw (by repeat (first | with_reducible exact Pick.here | apply Pick.there)) rfl rfl rfl (fun w hw => ?_)  -- disk.go:157 store[4] t13 := True
    refine xl_nil ?_
    exact end0 rfl (by
  have hh := hok.onK kl
  unfold Dk.onK at hh ⊢
  rw [h1] at hh ⊢
  exact ⟨rfl, (dsk_shut (D := ⟨settleL (keepQ kl) D.ws 0 D.lasts, [], true, D.alarm, D.wrote, D.synced⟩) hh hl hs hw).drop (.there .here)⟩)

theorem ct_disk_Disk_Lay {i : Int} {v : Value} {l : Bys} (hw : Sat G (dsk p D :: L) w) (ka : Knows L (SlB v l)) :
    Calls Try.prog 38 #[.pointer (some ⟨p, 0, none⟩), .int .i64 i, v] w (Ret fun r w' => r = .bool (D.lay i l).1 ∧ Sat G (dsk p (D.lay i l).2 :: L) w') := by
  obtain ⟨a, cap, rfl⟩ := ((ka.of (by repeat (first | exact Suf.refl _ | apply Suf.cons))).at hw).form
  obtain ⟨hok, ml, ms, sv, kl, ks, hl, hs, hw⟩ := dsk_open hw
  simp only [dparts, dcells, List.cons_append, List.nil_append] at hw
  refine calls_of_x (args := [_, _, _]) func_disk_Disk_Lay rfl nt_disk_Disk_Lay rfl ?_
  refine x_seq ?_
  refine x_region rfl ?_
  refine x_as rfl rfl trivial rfl ?_  -- disk.go:185 assign False
  refine xl_nil ?_
  refine x_seq ?_
  refine x_seq ?_
  refine x_region rfl ?_
  refine x_mv rfl rfl trivial rfl ?_  -- disk.go:186 move t0
  refine x_nc rfl rfl trivial rfl ?_  -- disk.go:186 nilCheck t8
  refine x_fld rfl rfl trivial fo_disk_Disk_4 rfl ?_  -- disk.go:186 fieldAddr[86] t9 .on(+4)
  refine x_ld rfl rfl trivial rfl (Loads.blk1 one_bool hw (by repeat (first | with_reducible exact Pick.here | apply Pick.there)) rfl) ?_  -- disk.go:186 load[4] t10
  refine x_mv rfl rfl trivial rfl ?_  -- disk.go:186 move t11
  refine xl_splitb (d := 12) rfl (fun h1 => ?_) (fun h1 => ?_)
  · -- yes
    refine xl_no rfl rfl rfl rfl rfl rfl ?_  -- passed over: move t0
    refine xl_no rfl rfl rfl rfl rfl rfl ?_  -- passed over: move t1
    refine xl_no rfl rfl rfl rfl rfl rfl ?_  -- passed over: call f54 (*coppice/disk.Disk).there(t13, t14)
    refine xl_no rfl rfl rfl rfl rfl rfl ?_  -- passed over: unOp "not" 4 15
    refine x_pickT rfl rfl trivial rfl rfl rfl ?_  -- disk.go:186 pick t12 ? True : t16
    refine x_mv rfl rfl trivial rfl ?_  -- disk.go:186 move t17
    refine xl_no rfl rfl rfl rfl rfl rfl ?_  -- passed over: move t2
    refine xl_no rfl rfl rfl rfl rfl rfl ?_  -- passed over: len(t19)
    refine xl_no rfl rfl rfl rfl rfl rfl ?_  -- passed over: neq[3] t20 512
    refine x_pickT rfl rfl trivial rfl rfl rfl ?_  -- disk.go:186 pick t18 ? True : t21
    refine xl_nil ?_
    refine x_cond_true rfl ?_
    refine x_seq ?_
    refine x_region rfl ?_
    refine x_as rfl rfl trivial rfl ?_  -- disk.go:187 assign False
    refine xl_nil ?_
    refine x_ret ?_
    exact end1 rfl rfl (by unfold Dk.lay; rw [if_pos h1]; exact ⟨rfl, dsk_shut hok hl hs hw⟩)
  · -- no
    have h1' : ¬ D.on = true := by simp [h1]
    refine x_mv rfl rfl ⟨_, rfl, rfl⟩ rfl ?_  -- disk.go:186 move t0
    refine x_mv rfl rfl ⟨_, rfl, rfl⟩ rfl ?_  -- disk.go:186 move t1
    refine x_call rfl rfl ⟨_, rfl, rfl⟩ cal_disk_Disk_there rfl (ct_disk_Disk_there hw) rfl (fun w v15 hv => ?_)  -- disk.go:186 call f54 (*coppice/disk.Disk).there(t13, t14)
    obtain ⟨rfl, hw⟩ := hv
    refine x_notp rfl rfl ⟨_, rfl, rfl⟩ rfl ?_  -- disk.go:186 unOp "not" 4 15
    refine x_pickF rfl rfl trivial rfl rfl rfl ?_  -- disk.go:186 pick t12 ? True : t16
    refine x_mv rfl rfl trivial rfl ?_  -- disk.go:186 move t17
    refine xl_split (d := 18) rfl (fun h2 => ?_) (fun h2 => ?_)
    · -- yes
      refine xl_no rfl rfl rfl rfl rfl rfl ?_  -- passed over: move t2
      refine xl_no rfl rfl rfl rfl rfl rfl ?_  -- passed over: len(t19)
      refine xl_no rfl rfl rfl rfl rfl rfl ?_  -- passed over: neq[3] t20 512
      refine x_pickT rfl rfl trivial rfl rfl rfl ?_  -- disk.go:186 pick t18 ? True : t21
      refine xl_nil ?_
      refine x_cond_true rfl ?_
      refine x_seq ?_
      refine x_region rfl ?_
      refine x_as rfl rfl trivial rfl ?_  -- disk.go:187 assign False
      refine xl_nil ?_
      refine x_ret ?_
      exact end1 rfl rfl (by unfold Dk.lay; rw [if_neg h1', if_pos h2]; exact ⟨rfl, dsk_shut hok hl hs hw⟩)
    · -- no
      have hin : 0 ≤ i ∧ i < D.lasts.length := Decidable.not_not.1 h2
      obtain ⟨j, rfl⟩ := Int.eq_ofNat_of_zero_le hin.1
      have hj : j < D.lasts.length := by omega
      refine x_mv rfl rfl ⟨_, rfl, rfl⟩ rfl ?_  -- disk.go:186 move t2
      refine x_len rfl rfl ⟨_, rfl, rfl⟩ rfl U_sl_uint8 rfl ?_  -- disk.go:186 len(t19)
      refine x_ne rfl rfl ⟨_, rfl, rfl⟩ rfl rfl rfl ?_  -- disk.go:186 neq[3] t20 512
      refine x_pickF rfl rfl trivial rfl rfl rfl ?_  -- disk.go:186 pick t18 ? True : t21
      refine xl_nil ?_
      refine x_if rfl (fun h3 => ?_) (fun h3 => ?_)
      · -- yes
        refine x_seq ?_
        refine x_region rfl ?_
        refine x_as rfl rfl trivial rfl ?_  -- disk.go:187 assign False
        refine xl_nil ?_
        refine x_ret ?_
        exact end1 rfl rfl (by unfold Dk.lay; rw [if_neg h1', if_neg h2, if_pos (by omega)]; exact ⟨rfl, dsk_shut hok hl hs hw⟩)
      · -- no
        have hl5 : l.length = 512 := by omega
        have hl5' : ¬ l.length ≠ 512 := by omega
        obtain ⟨b, o, rfl⟩ := ((ka.of (by repeat (first | exact Suf.refl _ | apply Suf.cons))).at hw).nn (by omega)
        refine x_skip ?_
        refine x_seq ?_
        refine x_region rfl ?_
        refine x_alloc rfl rfl trivial z_disk_block hw rfl (fun w b7 hw => ?_)  -- disk.go:189 alloc 78
        refine xl_nil ?_
        refine x_seq ?_
        refine x_region rfl ?_
        refine x_cutA rfl rfl trivial U_disk_block szs_uint8 (by decide) rfl rfl ?_  -- disk.go:190 slice[78] t7 [-:-:-]
        refine x_mv rfl rfl trivial rfl ?_  -- disk.go:190 move t2
        -- disk.go:190 copy(t23, t24)
        refine x_cp (cs := bys l) (l' := bys l) rfl rfl trivial U_sl_uint8 sz_uint8 rfl rfl hw (by repeat (first | with_reducible exact Pick.here | apply Pick.there)) ((ka.of (by repeat (first | exact Suf.refl _ | apply Suf.cons))).at hw).rd (by rw [bys_length, hl5]; rfl) (ones_bys _) (by rw [bys_length, hl5]; simp [rep_length]) (take_all hl5 _ (by simp [rep_length])) (by kernel_rfl) (fun w hw => ?_)
        refine xl_nil ?_
        refine x_seq ?_
        refine x_region rfl ?_
        refine x_mv rfl rfl trivial rfl ?_  -- disk.go:191 move t0
        refine x_mv rfl rfl trivial rfl ?_  -- disk.go:191 move t1
        refine x_ld rfl rfl trivial rfl (Loads.blkA many_disk_block hw (by repeat (first | with_reducible exact Pick.here | apply Pick.there)) (by rw [bys_length, hl5])) ?_  -- disk.go:191 load[78] t7
        refine x_call rfl rfl trivial cal_disk_Disk_keep rfl (ct_disk_Disk_keep (n := D.lasts.length) (i := j) (c := l) (hw.picks (As := [blk p _ _, mapI ml _]) (by repeat (first | exact Picks.nil | (apply Picks.cons; repeat (first | with_reducible exact Pick.here | apply Pick.there))))) hl5) rfl (fun w v29 hv => ?_)  -- disk.go:191 call f47 (*coppice/disk.Disk).keep(t26, t27, t28)
        obtain ⟨-, hw⟩ := hv
        simp only [List.cons_append, List.nil_append, List.append_eq] at hw
        refine xl_nil ?_
        refine x_seq ?_
        refine x_region rfl ?_
        refine x_as rfl rfl trivial rfl ?_  -- disk.go:192 assign True
        refine xl_nil ?_
        refine x_ret ?_
        exact end1 rfl rfl (by
  unfold Dk.lay; rw [if_neg h1', if_neg h2, if_neg hl5']
  have hok2 : Dk.Ok ⟨D.lasts.set j l, D.ws, D.on, D.alarm, D.wrote, D.synced⟩ := ⟨by simpa using hok.lo, by simpa using hok.hi, set_blk hok.blk hl5, by simpa using hok.ws, hok.alarm, hok.off, hok.cnt⟩
  have h := hw.picks (As := [blk p _ _, mapI ml _, mapI ms _, row _ _ _ _ _]) (by repeat (first | exact Picks.nil | (apply Picks.cons; repeat (first | with_reducible exact Pick.here | apply Pick.there))))
  have h := h.drop (.there (.there (.there (.there (Pick.here (A := blk b7 _ _))))))
  exact ⟨rfl, dsk_shut (D := ⟨D.lasts.set j l, D.ws, D.on, D.alarm, D.wrote, D.synced⟩) (ml := ml) (ms := ms) (sv := sv) hok2 (hl.keep hj l) hs (h.of_eq (by simp [dparts, dcells]))⟩)

end
end Go.Proofs.Ytekilljcoplacaa.X
