/- DiskSynced, walked. -/
import Derived.Test.YtekilljcoplacaaXLaw6c
namespace Go.Proofs.Ytekilljcoplacaa.X
set_option linter.unusedVariables false
set_option linter.unusedSimpArgs false

theorem OpV.Ok.of {L L' : List Assn} {o : OpV} (h : o.Ok L) (s : Suf L L') : o.Ok L' := ⟨h.b.of s, h.keep.of s, h.bl0, h.kl, h.i⟩

theorem settle_at (i : Nat) : ∀ (ws : List (Nat × Bys)) (k : Nat) (l : List Bys), (∀ x ∈ ws, x.1 < l.length) → blkAt (settleL (fun _ => true) ws k l) i = (lastOf ws i).getD (blkAt l i)
  | [], _, _, _ => rfl
  | (j, c) :: r, k, l, h => by
    have hj := h (j, c) (List.mem_cons_self ..)
    simp only [settleL, if_true]
    rw [settle_at i r (k + 1) (l.set j c) fun x hx => by rw [List.length_set]; exact h x (List.mem_cons_of_mem _ hx), blkAt_set hj]
    simp only [lastOf]
    cases hr : lastOf r i with
    | some x => rfl
    | none =>
      by_cases hi : i = j
      · subst hi; simp
      · rw [if_neg hi, if_neg (fun h => hi h.symm)]
theorem range_blkAt (B : List Bys) : (List.range B.length).map (blkAt B) = B := by
  apply List.ext_getElem
  · simp
  · intro i h1 h2; simp [blkAt, h2]
theorem whole_nows {D : Dk} (h : D.ws = []) : D.wholeB D.lasts.length = D.img := by
  have h1 : D.shows = blkAt D.lasts := by funext i; simp [Dk.shows, h, lastOf]
  rw [Dk.wholeB, h1, range_blkAt]; rfl
/-- what is shown is what a sync makes last -/
theorem whole_settled {D : Dk} (hok : D.Ok) : D.wholeB D.lasts.length = (settleL (fun _ => true) D.ws 0 D.lasts).flatten := by
  have h1 : D.shows = blkAt (settleL (fun _ => true) D.ws 0 D.lasts) := by
    funext i; rw [settle_at i D.ws 0 D.lasts fun x hx => (hok.ws x hx).1]; rfl
  have h2 : (settleL (fun _ => true) D.ws 0 D.lasts).length = D.lasts.length := settleL_length ..
  rw [Dk.wholeB, h1, ← h2, range_blkAt]

theorem synced_facts {E : Dk} (hok : E.Ok) (hon : E.on = true) : ∃ F S T : Dk, E.arm (-1) = F ∧ F.on = true ∧ F.sync = (0, S) ∧ (∀ kl, S.failed.onK kl = T) ∧ T.on = true ∧ T.lasts.length = E.lasts.length ∧ F.lasts.length = E.lasts.length ∧
    T.img = F.wholeB E.lasts.length ∧ T.wholeB T.lasts.length = F.wholeB E.lasts.length ∧ (F.wholeB E.lasts.length).length = 512 * E.lasts.length ∧ F.wrote = E.wrote ∧ F.synced = E.synced ∧ S.wrote = E.wrote := by
  let F : Dk := ⟨E.lasts, E.ws, E.on, -1, E.wrote, E.synced⟩
  let S : Dk := ⟨settleL (fun _ => true) E.ws 0 E.lasts, [], E.on, -1, E.wrote, E.synced + 1⟩
  let T : Dk := ⟨settleL (fun _ => true) E.ws 0 E.lasts, [], true, -1, E.wrote, E.synced + 1⟩
  have hFok : F.Ok := ⟨hok.lo, hok.hi, hok.blk, hok.ws, by simp [F], fun _ => rfl, hok.cnt⟩
  have hw : F.wholeB E.lasts.length = T.img := whole_settled hFok
  refine ⟨F, S, T, ?_, hon, ?_, fun kl => ?_, rfl, settleL_length .., rfl, hw.symm, ?_, ?_, rfl, rfl, rfl⟩
  · unfold Dk.arm; rw [if_pos hon]; simp [F]
  · unfold Dk.sync; rw [if_neg (by simp [F, hon]), if_neg (by simp [F])]; simp [F, S, Dk.settled, Dk.tick]
  · unfold Dk.onK; simp [Dk.failed, S, T, settleL]
  · rw [hw]; exact whole_nows rfl
  · rw [hw]
    have h1 := flat_len512 T.lasts (settleL_blk (fun _ => true) E.ws 0 E.lasts (fun x hx => (hok.ws x hx).2) hok.blk)
    have h2 : T.lasts.length = E.lasts.length := settleL_length ..
    rw [h2] at h1; exact h1

section
variable {G : Gh} {L R : List Assn} {w : World} {p : Nat} {D : Dk}

theorem ct_law06_DiskSynced_nil {n : Int} {sv v s1 s2 : Value} {l : Bys} {os : List OpV} {k1 k2 : List Bool} (hw : Sat G L w) (ka : Knows L (SlB sv l)) (hll : l.length ≤ 140737488355328) (ko : Script L v os) (kk : Knows L (SlV s1 (bools k1))) (hk1 : k1.length ≤ 140737488355328) (kz : Knows L (SlV s2 (bools k2))) (hk2 : k2.length ≤ 140737488355328) (hD : startD n l = none) :
    Calls Try.prog 11 #[.agg #[.int .i64 n, sv], v, .agg #[s1, s2]] w (Ret fun r w' => r = .bool true ∧ Sat G L w') := by
  obtain ⟨a, cap, rfl, hcap, hasp⟩ := (ko.sl.at hw).form
  refine calls_of_x (args := [_, _, _]) func_law06_DiskSynced rfl nt_law06_DiskSynced rfl ?_
  refine x_seq ?_
  refine x_region rfl ?_
  refine x_box rfl rfl trivial rfl rfl hw rfl (fun w b3 hw => ?_)  -- law.go:273 box[37] t0
  refine x_box rfl rfl trivial rfl rfl hw rfl (fun w b5 hw => ?_)  -- law.go:273 box[59] t2
  refine x_as rfl rfl trivial rfl ?_  -- law.go:273 assign False
  refine xl_nil ?_
  refine x_seq ?_
  refine x_region rfl ?_
  refine x_mv rfl rfl trivial rfl ?_  -- law.go:274 move t1
  refine x_mv rfl rfl trivial rfl ?_  -- law.go:274 move t1
  refine x_len rfl rfl trivial rfl U_sl_coppicelaw06_Op rfl ?_  -- law.go:274 len(t11)
  -- law.go:274 min(t12, 60)
  refine x_min2 rfl rfl trivial rfl rfl ?_
  -- law.go:274 slice[38] t10 [-:t13:-]
  refine x_cutH rfl rfl trivial U_sl_coppicelaw06_Op szs_coppicelaw06_Op rfl hasp rfl ⟨by omega, by omega⟩ ?_
  refine x_as rfl rfl trivial rfl ?_  -- law.go:274 assign t14
  refine xl_nil ?_
  refine x_seq ?_
  refine x_seq ?_
  refine x_region rfl ?_
  refine x_call rfl rfl trivial cal_law06_works rfl (ct_law06_works hw) rfl (fun w v15 hv => ?_)  -- law.go:275 call f18 coppice/coppicelaw06.works()
  obtain ⟨rfl, hw⟩ := hv
  -- law.go:275 unOp "not" 4 15
  refine x_not rfl rfl trivial rfl ?_
  refine xl_nil ?_
  refine x_cond_false rfl ?_
  refine x_skip ?_
  refine x_seq ?_
  refine x_region rfl ?_
  refine x_ld rfl rfl trivial rfl (Loads.blkA many_coppicelaw06_Start hw (by repeat (first | with_reducible exact Pick.here | apply Pick.there)) (by simp)) ?_  -- law.go:278 load[37] t3
  refine x_call rfl rfl trivial cal_law06_started rfl (ct_law06_started (n := n) (l := l) hw (ka.of (by repeat (first | exact Suf.refl _ | apply Suf.cons))) hll) rfl (fun w v18 hv => ?_)  -- law.go:278 call f22 coppice/coppicelaw06.started(t17)
  obtain ⟨-, rfl, hw⟩ | ⟨D, q, h1, -, -⟩ := hv
  case inr => rw [hD] at h1; cases h1
  refine x_as rfl rfl trivial rfl ?_  -- law.go:278 assign t18
  refine xl_nil ?_
  refine x_seq ?_
  refine x_region rfl ?_
  refine x_ld rfl rfl trivial rfl (Loads.blkA many_coppicelaw06_Start hw (by repeat (first | with_reducible exact Pick.here | apply Pick.there)) (by simp)) ?_  -- law.go:279 load[37] t3
  refine x_call rfl rfl trivial cal_law06_started rfl (ct_law06_started (n := n) (l := l) hw (ka.of (by repeat (first | exact Suf.refl _ | apply Suf.cons))) hll) rfl (fun w v20 hv => ?_)  -- law.go:279 call f22 coppice/coppicelaw06.started(t19)
  obtain ⟨-, rfl, hw⟩ | ⟨D, q, h1, -, -⟩ := hv
  case inr => rw [hD] at h1; cases h1
  refine x_as rfl rfl trivial rfl ?_  -- law.go:279 assign t20
  refine xl_nil ?_
  refine x_seq ?_
  refine x_seq ?_
  refine x_region rfl ?_
  refine x_mv rfl rfl trivial rfl ?_  -- law.go:280 move t7
  refine x_eqnil rfl rfl trivial rfl U_p_disk_Disk rfl ?_  -- law.go:280 eql[25] t21 {'nilptr': 1}
  refine x_mv rfl rfl trivial rfl ?_  -- law.go:280 move t22
  refine xl_no rfl rfl rfl rfl rfl rfl ?_  -- passed over: move t8
  refine xl_no rfl rfl rfl rfl rfl rfl ?_  -- passed over: eql[25] t24 {'nilptr': 1}
  refine x_pickT rfl rfl trivial rfl rfl rfl ?_  -- law.go:280 pick t23 ? True : t25
  refine xl_nil ?_
  refine x_cond_true rfl ?_
  refine x_seq ?_
  refine x_region rfl ?_
  refine x_mv rfl rfl trivial rfl ?_  -- law.go:281 move t7
  refine x_eqnil rfl rfl trivial rfl U_p_disk_Disk rfl ?_  -- law.go:281 eql[25] t27 {'nilptr': 1}
  refine x_mv rfl rfl trivial rfl ?_  -- law.go:281 move t28
  refine x_mv rfl rfl ⟨_, rfl, rfl⟩ rfl ?_  -- law.go:281 move t8
  refine x_eqnil rfl rfl ⟨_, rfl, rfl⟩ rfl U_p_disk_Disk rfl ?_  -- law.go:281 eql[25] t30 {'nilptr': 1}
  refine x_pickT rfl rfl trivial rfl rfl rfl ?_  -- law.go:281 pick t29 ? t31 : False
  refine x_as rfl rfl trivial rfl ?_  -- law.go:281 assign t32
  refine xl_nil ?_
  refine x_ret ?_
  exact end1 rfl rfl ⟨rfl, hw.tail.tail⟩

theorem ct_law06_DiskSynced_go {n : Int} {sv v s1 s2 : Value} {l : Bys} {os : List OpV} {k1 k2 : List Bool} (hw : Sat G L w) (ka : Knows L (SlB sv l)) (hll : l.length ≤ 140737488355328) (ko : Script L v os) (kk : Knows L (SlV s1 (bools k1))) (hk1 : k1.length ≤ 140737488355328) (kz : Knows L (SlV s2 (bools k2))) (hk2 : k2.length ≤ 140737488355328) (hD : startD n l = some D) :
    Calls Try.prog 11 #[.agg #[.int .i64 n, sv], v, .agg #[s1, s2]] w (Ret fun r w' => r = .bool true ∧ Sat G L w') := by
  obtain ⟨a, cap, rfl, hcap, hasp⟩ := (ko.sl.at hw).form
  obtain ⟨-, -, -, hwr, hsyn⟩ := startD_fresh hD
  refine calls_of_x (args := [_, _, _]) func_law06_DiskSynced rfl nt_law06_DiskSynced rfl ?_
  refine x_seq ?_
  refine x_region rfl ?_
  refine x_box rfl rfl trivial rfl rfl hw rfl (fun w b3 hw => ?_)  -- law.go:273 box[37] t0
  refine x_box rfl rfl trivial rfl rfl hw rfl (fun w b5 hw => ?_)  -- law.go:273 box[59] t2
  refine x_as rfl rfl trivial rfl ?_  -- law.go:273 assign False
  refine xl_nil ?_
  refine x_seq ?_
  refine x_region rfl ?_
  refine x_mv rfl rfl trivial rfl ?_  -- law.go:274 move t1
  refine x_mv rfl rfl trivial rfl ?_  -- law.go:274 move t1
  refine x_len rfl rfl trivial rfl U_sl_coppicelaw06_Op rfl ?_  -- law.go:274 len(t11)
  -- law.go:274 min(t12, 60)
  refine x_min2 rfl rfl trivial rfl rfl ?_
  -- law.go:274 slice[38] t10 [-:t13:-]
  refine x_cutH rfl rfl trivial U_sl_coppicelaw06_Op szs_coppicelaw06_Op rfl hasp rfl ⟨by omega, by omega⟩ ?_
  have hsl : Knows L (SlO (.slice a (os.take 60).length cap) (os.take 60)) := ko.sl.mono fun w h => h.take 60
  have hok : ∀ o ∈ os.take 60, o.Ok L := fun o h => ko.ok o (List.mem_of_mem_take h)
  have hlen : (os.take 60).length ≤ 60 := by simp; omega
  rw [show (min (os.length : Int) 60).toNat = (os.take 60).length by simp; omega]
  generalize os.take 60 = os' at hsl hok hlen ⊢
  refine x_as rfl rfl trivial rfl ?_  -- law.go:274 assign t14
  refine xl_nil ?_
  refine x_seq ?_
  refine x_seq ?_
  refine x_region rfl ?_
  refine x_call rfl rfl trivial cal_law06_works rfl (ct_law06_works hw) rfl (fun w v15 hv => ?_)  -- law.go:275 call f18 coppice/coppicelaw06.works()
  obtain ⟨rfl, hw⟩ := hv
  -- law.go:275 unOp "not" 4 15
  refine x_not rfl rfl trivial rfl ?_
  refine xl_nil ?_
  refine x_cond_false rfl ?_
  refine x_skip ?_
  refine x_seq ?_
  refine x_region rfl ?_
  refine x_ld rfl rfl trivial rfl (Loads.blkA many_coppicelaw06_Start hw (by repeat (first | with_reducible exact Pick.here | apply Pick.there)) (by simp)) ?_  -- law.go:278 load[37] t3
  refine x_call rfl rfl trivial cal_law06_started rfl (ct_law06_started (n := n) (l := l) hw (ka.of (by repeat (first | exact Suf.refl _ | apply Suf.cons))) hll) rfl (fun w v18 hv => ?_)  -- law.go:278 call f22 coppice/coppicelaw06.started(t17)
  obtain ⟨h1, -, -⟩ | ⟨D', q1, h1, rfl, hw⟩ := hv
  case inl => rw [hD] at h1; cases h1
  obtain rfl : D = D' := by rw [hD] at h1; exact Option.some.inj h1
  refine x_as rfl rfl trivial rfl ?_  -- law.go:278 assign t18
  refine xl_nil ?_
  refine x_seq ?_
  refine x_region rfl ?_
  refine x_ld rfl rfl trivial rfl (Loads.blkA many_coppicelaw06_Start hw (by repeat (first | with_reducible exact Pick.here | apply Pick.there)) (by simp)) ?_  -- law.go:279 load[37] t3
  refine x_call rfl rfl trivial cal_law06_started rfl (ct_law06_started (n := n) (l := l) hw (ka.of (by repeat (first | exact Suf.refl _ | apply Suf.cons))) hll) rfl (fun w v20 hv => ?_)  -- law.go:279 call f22 coppice/coppicelaw06.started(t19)
  obtain ⟨h1, -, -⟩ | ⟨D', q2, h1, rfl, hw⟩ := hv
  case inl => rw [hD] at h1; cases h1
  obtain rfl : D = D' := by rw [hD] at h1; exact Option.some.inj h1
  refine x_as rfl rfl trivial rfl ?_  -- law.go:279 assign t20
  refine xl_nil ?_
  refine x_seq ?_
  refine x_seq ?_
  refine x_region rfl ?_
  refine x_mv rfl rfl trivial rfl ?_  -- law.go:280 move t7
  refine x_eqnil rfl rfl trivial rfl U_p_disk_Disk rfl ?_  -- law.go:280 eql[25] t21 {'nilptr': 1}
  refine x_mv rfl rfl trivial rfl ?_  -- law.go:280 move t22
  refine x_mv rfl rfl ⟨_, rfl, rfl⟩ rfl ?_  -- law.go:280 move t8
  refine x_eqnil rfl rfl ⟨_, rfl, rfl⟩ rfl U_p_disk_Disk rfl ?_  -- law.go:280 eql[25] t24 {'nilptr': 1}
  refine x_pickF rfl rfl trivial rfl rfl rfl ?_  -- law.go:280 pick t23 ? True : t25
  refine xl_nil ?_
  refine x_cond_false rfl ?_
  refine x_skip ?_
  refine x_seq ?_
  refine x_region rfl ?_
  refine x_mv rfl rfl trivial rfl ?_  -- law.go:283 move t7
  refine x_mv rfl rfl trivial rfl ?_  -- law.go:283 move t1
  refine x_call rfl rfl trivial cal_law06_run rfl (ct_law06_run (D := D) (os := os') (hw.pick (A := dsk q1 D) (by repeat (first | with_reducible exact Pick.here | apply Pick.there))) (hsl.of (by repeat (first | exact Suf.refl _ | apply Suf.cons))) (fun o h => (hok o h).of (by repeat (first | exact Suf.refl _ | apply Suf.cons))) hlen ⟨by omega, by omega⟩) rfl (fun w v35 hv => ?_)  -- law.go:283 call f32 coppice/coppicelaw06.run(t33, t34)
  obtain ⟨-, hw⟩ := hv
  refine xl_nil ?_
  refine x_seq ?_
  refine x_region rfl ?_
  refine x_mv rfl rfl trivial rfl ?_  -- law.go:284 move t8
  refine x_mv rfl rfl trivial rfl ?_  -- law.go:284 move t1
  refine x_call rfl rfl trivial cal_law06_run rfl (ct_law06_run (D := D) (os := os') (hw.pick (A := dsk q2 D) (by repeat (first | with_reducible exact Pick.here | apply Pick.there))) (hsl.of (by repeat (first | exact Suf.refl _ | apply Suf.cons))) (fun o h => (hok o h).of (by repeat (first | exact Suf.refl _ | apply Suf.cons))) hlen ⟨by omega, by omega⟩) rfl (fun w v38 hv => ?_)  -- law.go:284 call f32 coppice/coppicelaw06.run(t36, t37)
  obtain ⟨-, hw⟩ := hv
  have hcnt := runD_cnt D os'
  generalize runD D os' = E at hw hcnt
  have hEok := (dsk_open hw).1
  have hhi := hEok.hi
  refine xl_nil ?_
  refine x_seq ?_
  refine x_seq ?_
  refine x_region rfl ?_
  refine x_mv rfl rfl trivial rfl ?_  -- law.go:285 move t7
  refine x_call rfl rfl trivial cal_disk_Disk_IsOn rfl (ct_disk_Disk_IsOn (D := E) (p := q1) (hw.pick (A := dsk q1 E) (by repeat (first | with_reducible exact Pick.here | apply Pick.there)))) rfl (fun w v40 hv => ?_)  -- law.go:285 call f27 (*coppice/disk.Disk).IsOn(t39)
  obtain ⟨rfl, hw⟩ := hv
  refine x_mv rfl rfl trivial rfl ?_  -- law.go:285 move t8
  refine x_call rfl rfl trivial cal_disk_Disk_IsOn rfl (ct_disk_Disk_IsOn (D := E) (p := q2) (hw.pick (A := dsk q2 E) (by repeat (first | with_reducible exact Pick.here | apply Pick.there)))) rfl (fun w v42 hv => ?_)  -- law.go:285 call f27 (*coppice/disk.Disk).IsOn(t41)
  obtain ⟨rfl, hw⟩ := hv
  refine x_neb rfl rfl trivial rfl U_bool rfl rfl ?_  -- law.go:285 neq[4] t40 t42
  refine xl_nil ?_
  refine x_if rfl (fun h4 => ?_) (fun h4 => ?_)
  · -- yes
    exact absurd rfl h4
  · -- no
    refine x_skip ?_
    refine x_seq ?_
    refine x_seq ?_
    refine x_region rfl ?_
    refine x_mv rfl rfl trivial rfl ?_  -- law.go:288 move t7
    refine x_call rfl rfl trivial cal_disk_Disk_IsOn rfl (ct_disk_Disk_IsOn (D := E) (p := q1) (hw.pick (A := dsk q1 E) (by repeat (first | with_reducible exact Pick.here | apply Pick.there)))) rfl (fun w v45 hv => ?_)  -- law.go:288 call f27 (*coppice/disk.Disk).IsOn(t44)
    obtain ⟨rfl, hw⟩ := hv
    -- law.go:288 unOp "not" 4 45
    refine x_not rfl rfl trivial rfl ?_
    refine xl_nil ?_
    refine x_cond rfl (fun h5 => ?_) (fun h5 => ?_)
    · -- yes
      refine x_seq ?_
      refine x_region rfl ?_
      refine x_mv rfl rfl trivial rfl ?_  -- law.go:289 move t7
      refine x_call rfl rfl trivial cal_disk_Disk_Image rfl (ct_disk_Disk_Image (D := E) (p := q1) (hw.pick (A := dsk q1 E) (by repeat (first | with_reducible exact Pick.here | apply Pick.there)))) rfl (fun w v48 hv => ?_)  -- law.go:289 call f20 (*coppice/disk.Disk).Image(t47)
      have hw := hv
      refine x_mv rfl rfl trivial rfl ?_  -- law.go:289 move t8
      refine x_call rfl rfl trivial cal_disk_Disk_Image rfl (ct_disk_Disk_Image (D := E) (p := q2) (hw.pick (A := dsk q2 E) (by repeat (first | with_reducible exact Pick.here | apply Pick.there)))) rfl (fun w v50 hv => ?_)  -- law.go:289 call f20 (*coppice/disk.Disk).Image(t49)
      have hw := hv
      have hil := hEok.img
      refine x_call rfl rfl trivial cal_ref00_EqBytes rfl (ct_ref00_EqBytes (v := v48) (v' := v50) (l := E.img) (l' := E.img) hw (rowB hil (by repeat (first | with_reducible exact Pick.here | apply Pick.there))) (rowB hil (by repeat (first | with_reducible exact Pick.here | apply Pick.there))) (by omega) (by omega)) rfl (fun w v51 hv => ?_)  -- law.go:289 call f19 coppice/coppiceref00.EqBytes(t48, t50)
      obtain ⟨rfl, hw⟩ := hv
      refine x_as rfl rfl trivial rfl ?_  -- law.go:289 assign t51
      refine xl_nil ?_
      refine x_ret ?_
      exact end1 rfl rfl ⟨by simp, (by repeat (first | exact hw | replace hw := hw.tail))⟩
    · -- no
      obtain ⟨F, S, T, hF, hFon, hsy, hT, hTon, hTl, hFl, hTi, hTw, hwl, hFw, hFs, hSw⟩ := synced_facts hEok (by simpa using h5)
      refine x_skip ?_
      refine x_seq ?_
      refine x_region rfl ?_
      refine x_mv rfl rfl trivial rfl ?_  -- law.go:291 move t7
      refine x_call rfl rfl trivial cal_disk_Disk_Arm rfl (ct_disk_Disk_Arm (D := E) (n := -1) (p := q1) (hw.pick (A := dsk q1 E) (by repeat (first | with_reducible exact Pick.here | apply Pick.there))) (by decide)) rfl (fun w v53 hv => ?_)  -- law.go:291 call f23 (*coppice/disk.Disk).Arm(t52, -1)
      obtain ⟨-, hw⟩ := hv
      refine xl_nil ?_
      refine x_seq ?_
      refine x_region rfl ?_
      refine x_mv rfl rfl trivial rfl ?_  -- law.go:292 move t8
      refine x_call rfl rfl trivial cal_disk_Disk_Arm rfl (ct_disk_Disk_Arm (D := E) (n := -1) (p := q2) (hw.pick (A := dsk q2 E) (by repeat (first | with_reducible exact Pick.here | apply Pick.there))) (by decide)) rfl (fun w v55 hv => ?_)  -- law.go:292 call f23 (*coppice/disk.Disk).Arm(t54, -1)
      obtain ⟨-, hw⟩ := hv
      rw [hF] at hw
      refine xl_nil ?_
      refine x_seq ?_
      refine x_region rfl ?_
      refine x_mv rfl rfl trivial rfl ?_  -- law.go:293 move t7
      refine x_call rfl rfl trivial cal_law06_whole rfl (ct_law06_whole (D := F) (p := q1) (hw.pick (A := dsk q1 F) (by repeat (first | with_reducible exact Pick.here | apply Pick.there))) hFon) rfl (fun w v57 hv => ?_)  -- law.go:293 call f21 coppice/coppicelaw06.whole(t56)
      have hw := hv
      rw [hFl] at hw
      generalize F.wholeB E.lasts.length = was at hw hTi hTw hwl
      refine x_as rfl rfl trivial rfl ?_  -- law.go:293 assign t57
      refine xl_nil ?_
      refine x_seq ?_
      refine x_seq ?_
      refine x_region rfl ?_
      refine x_mv rfl rfl trivial rfl ?_  -- law.go:294 move t7
      refine x_call rfl rfl trivial cal_disk_Disk_Sync rfl (ct_disk_Disk_Sync (D := F) (p := q1) (hw.pick (A := dsk q1 F) (by repeat (first | with_reducible exact Pick.here | apply Pick.there))) (by omega) (by omega)) rfl (fun w v59 hv => ?_)  -- law.go:294 call f24 (*coppice/disk.Disk).Sync(t58)
      obtain ⟨rfl, hw⟩ := hv
      rw [hsy] at hw ⊢
      refine x_ne rfl rfl trivial rfl rfl rfl ?_  -- law.go:294 neq[26] t59 0
      refine x_mv rfl rfl trivial rfl ?_  -- law.go:294 move t60
      refine xl_split (d := 61) rfl (fun h6 => ?_) (fun h6 => ?_)
      · -- yes
        exact absurd rfl h6
      · -- no
        refine x_mv rfl rfl ⟨_, rfl, rfl⟩ rfl ?_  -- law.go:294 move t8
        refine x_call rfl rfl ⟨_, rfl, rfl⟩ cal_disk_Disk_Sync rfl (ct_disk_Disk_Sync (D := F) (p := q2) (hw.pick (A := dsk q2 F) (by repeat (first | with_reducible exact Pick.here | apply Pick.there))) (by omega) (by omega)) rfl (fun w v63 hv => ?_)  -- law.go:294 call f24 (*coppice/disk.Disk).Sync(t62)
        obtain ⟨rfl, hw⟩ := hv
        rw [hsy] at hw ⊢
        refine x_ne rfl rfl ⟨_, rfl, rfl⟩ rfl rfl rfl ?_  -- law.go:294 neq[26] t63 0
        refine x_pickF rfl rfl trivial rfl rfl rfl ?_  -- law.go:294 pick t61 ? True : t64
        refine xl_nil ?_
        refine x_if rfl (fun h7 => ?_) (fun h7 => ?_)
        · -- yes
          exact absurd rfl h7
        · -- no
          refine x_skip ?_
          refine x_seq ?_
          refine x_region rfl ?_
          refine x_mv rfl rfl trivial rfl ?_  -- law.go:297 move t7
          refine x_call rfl rfl trivial cal_disk_Disk_Off rfl (ct_Off (D := S) (p := q1) (hw.pick (A := dsk q1 S) (by repeat (first | with_reducible exact Pick.here | apply Pick.there)))) rfl (fun w v67 hv => ?_)  -- law.go:297 call f33 (*coppice/disk.Disk).Off(t66)
          obtain ⟨-, hw⟩ := hv
          refine xl_nil ?_
          refine x_seq ?_
          refine x_region rfl ?_
          refine x_mv rfl rfl trivial rfl ?_  -- law.go:298 move t8
          refine x_call rfl rfl trivial cal_disk_Disk_Off rfl (ct_Off (D := S) (p := q2) (hw.pick (A := dsk q2 S) (by repeat (first | with_reducible exact Pick.here | apply Pick.there)))) rfl (fun w v69 hv => ?_)  -- law.go:298 call f33 (*coppice/disk.Disk).Off(t68)
          obtain ⟨-, hw⟩ := hv
          have hSw' : S.failed.wrote < 1000000000 := by show S.wrote < _; omega
          refine xl_nil ?_
          refine x_seq ?_
          refine x_region rfl ?_
          refine x_mv rfl rfl trivial rfl ?_  -- law.go:299 move t7
          refine x_fld rfl rfl trivial fo_coppicelaw06_Two_0 rfl ?_  -- law.go:299 fieldAddr[59] t5 .One(+0)
          refine x_ld rfl rfl trivial rfl (Loads.blk1 one_sl_bool hw (by repeat (first | with_reducible exact Pick.here | apply Pick.there)) rfl) ?_  -- law.go:299 load[41] t71
          refine x_call rfl rfl trivial cal_law06_copyBools rfl (ct_law06_copyBools (kl := k1) hw (kk.of (by repeat (first | exact Suf.refl _ | apply Suf.cons))) hk1) rfl (fun w v73 hv => ?_)  -- law.go:299 call f35 coppice/coppicelaw06.copyBools(t72)
          have hw := hv
          refine x_call rfl rfl trivial cal_disk_Disk_On rfl (ct_disk_Disk_On (D := S.failed) (kl := k1) (p := q1) (hw.pick (A := dsk q1 S.failed) (by repeat (first | with_reducible exact Pick.here | apply Pick.there))) (rowV rfl (by repeat (first | with_reducible exact Pick.here | apply Pick.there))) hSw') rfl (fun w v74 hv => ?_)  -- law.go:299 call f34 (*coppice/disk.Disk).On(t70, t73)
          obtain ⟨-, hw⟩ := hv
          refine xl_nil ?_
          refine x_seq ?_
          refine x_region rfl ?_
          refine x_mv rfl rfl trivial rfl ?_  -- law.go:300 move t8
          refine x_fld rfl rfl trivial fo_coppicelaw06_Two_1 rfl ?_  -- law.go:300 fieldAddr[59] t5 .Other(+1)
          refine x_ld rfl rfl trivial rfl (Loads.blk1 one_sl_bool hw (by repeat (first | with_reducible exact Pick.here | apply Pick.there)) rfl) ?_  -- law.go:300 load[41] t76
          refine x_call rfl rfl trivial cal_law06_copyBools rfl (ct_law06_copyBools (kl := k2) hw (kz.of (by repeat (first | exact Suf.refl _ | apply Suf.cons))) hk2) rfl (fun w v78 hv => ?_)  -- law.go:300 call f35 coppice/coppicelaw06.copyBools(t77)
          have hw := hv
          refine x_call rfl rfl trivial cal_disk_Disk_On rfl (ct_disk_Disk_On (D := S.failed) (kl := k2) (p := q2) (hw.pick (A := dsk q2 S.failed) (by repeat (first | with_reducible exact Pick.here | apply Pick.there))) (rowV rfl (by repeat (first | with_reducible exact Pick.here | apply Pick.there))) hSw') rfl (fun w v79 hv => ?_)  -- law.go:300 call f34 (*coppice/disk.Disk).On(t75, t78)
          obtain ⟨-, hw⟩ := hv
          rw [hT, hT] at hw
          refine xl_nil ?_
          refine x_seq ?_
          refine x_region rfl ?_
          refine x_mv rfl rfl trivial rfl ?_  -- law.go:301 move t7
          refine x_call rfl rfl trivial cal_disk_Disk_Image rfl (ct_disk_Disk_Image (D := T) (p := q1) (hw.pick (A := dsk q1 T) (by repeat (first | with_reducible exact Pick.here | apply Pick.there)))) rfl (fun w v81 hv => ?_)  -- law.go:301 call f20 (*coppice/disk.Disk).Image(t80)
          have hw := hv
          rw [hTi] at hw
          refine x_mv rfl rfl trivial rfl ?_  -- law.go:301 move t9
          refine x_call rfl rfl trivial cal_ref00_EqBytes rfl (ct_ref00_EqBytes (v := v81) (v' := v57) (l := was) (l' := was) hw (rowB (n := 512 * T.lasts.length) (by omega) (by repeat (first | with_reducible exact Pick.here | apply Pick.there))) (rowB (n := E.lasts.length * 512) (by omega) (by repeat (first | with_reducible exact Pick.here | apply Pick.there))) (by omega) (by omega)) rfl (fun w v83 hv => ?_)  -- law.go:301 call f19 coppice/coppiceref00.EqBytes(t81, t82)
          obtain ⟨rfl, hw⟩ := hv
          refine x_mv rfl rfl trivial rfl ?_  -- law.go:301 move t83
          refine xl_split (d := 84) rfl (fun h8 => ?_) (fun h8 => ?_)
          · -- yes
            refine x_mv rfl rfl ⟨_, rfl, rfl⟩ rfl ?_  -- law.go:301 move t8
            refine x_call rfl rfl ⟨_, rfl, rfl⟩ cal_disk_Disk_Image rfl (ct_disk_Disk_Image (D := T) (p := q2) (hw.pick (A := dsk q2 T) (by repeat (first | with_reducible exact Pick.here | apply Pick.there)))) rfl (fun w v86 hv => ?_)  -- law.go:301 call f20 (*coppice/disk.Disk).Image(t85)
            have hw := hv
            rw [hTi] at hw
            refine x_mv rfl rfl ⟨_, rfl, rfl⟩ rfl ?_  -- law.go:301 move t9
            refine x_call rfl rfl ⟨_, rfl, rfl⟩ cal_ref00_EqBytes rfl (ct_ref00_EqBytes (v := v86) (v' := v57) (l := was) (l' := was) hw (rowB (n := 512 * T.lasts.length) (by omega) (by repeat (first | with_reducible exact Pick.here | apply Pick.there))) (rowB (n := E.lasts.length * 512) (by omega) (by repeat (first | with_reducible exact Pick.here | apply Pick.there))) (by omega) (by omega)) rfl (fun w v88 hv => ?_)  -- law.go:301 call f19 coppice/coppiceref00.EqBytes(t86, t87)
            obtain ⟨rfl, hw⟩ := hv
            refine x_pickT rfl rfl trivial rfl rfl rfl ?_  -- law.go:301 pick t84 ? t88 : False
            refine x_mv rfl rfl trivial rfl ?_  -- law.go:301 move t89
            refine xl_split (d := 90) rfl (fun h9 => ?_) (fun h9 => ?_)
            · -- yes
              refine x_mv rfl rfl ⟨_, rfl, rfl⟩ rfl ?_  -- law.go:301 move t7
              refine x_call rfl rfl ⟨_, rfl, rfl⟩ cal_law06_whole rfl (ct_law06_whole (D := T) (p := q1) (hw.pick (A := dsk q1 T) (by repeat (first | with_reducible exact Pick.here | apply Pick.there))) hTon) rfl (fun w v92 hv => ?_)  -- law.go:301 call f21 coppice/coppicelaw06.whole(t91)
              have hw := hv
              rw [hTw] at hw
              refine x_mv rfl rfl ⟨_, rfl, rfl⟩ rfl ?_  -- law.go:301 move t9
              refine x_call rfl rfl ⟨_, rfl, rfl⟩ cal_ref00_EqBytes rfl (ct_ref00_EqBytes (v := v92) (v' := v57) (l := was) (l' := was) hw (rowB (n := T.lasts.length * 512) (by omega) (by repeat (first | with_reducible exact Pick.here | apply Pick.there))) (rowB (n := E.lasts.length * 512) (by omega) (by repeat (first | with_reducible exact Pick.here | apply Pick.there))) (by omega) (by omega)) rfl (fun w v94 hv => ?_)  -- law.go:301 call f19 coppice/coppiceref00.EqBytes(t92, t93)
              obtain ⟨rfl, hw⟩ := hv
              refine x_pickT rfl rfl trivial rfl rfl rfl ?_  -- law.go:301 pick t90 ? t94 : False
              refine x_as rfl rfl trivial rfl ?_  -- law.go:301 assign t95
              refine xl_nil ?_
              refine x_ret ?_
              exact end1 rfl rfl ⟨by simp, (by repeat (first | exact hw | replace hw := hw.tail))⟩
            · -- no
              exact absurd rfl h9
          · -- no
            exact absurd rfl h8

theorem ct_law06_DiskSynced {n : Int} {sv v s1 s2 : Value} {l : Bys} {os : List OpV} {k1 k2 : List Bool} (hw : Sat G L w) (ka : Knows L (SlB sv l)) (hll : l.length ≤ 140737488355328) (ko : Script L v os) (kk : Knows L (SlV s1 (bools k1))) (hk1 : k1.length ≤ 140737488355328) (kz : Knows L (SlV s2 (bools k2))) (hk2 : k2.length ≤ 140737488355328) :
    Calls Try.prog 11 #[.agg #[.int .i64 n, sv], v, .agg #[s1, s2]] w (Ret fun r w' => r = .bool true ∧ Sat G L w') := by
  cases hD : startD n l with
  | none => exact ct_law06_DiskSynced_nil hw ka hll ko kk hk1 kz hk2 hD
  | some D => exact ct_law06_DiskSynced_go hw ka hll ko kk hk1 kz hk2 hD
end
end Go.Proofs.Ytekilljcoplacaa.X
