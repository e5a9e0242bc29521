/- EqInts; DiskAgain, walked. -/
import Derived.Test.YtekilljcoplacaaXLaw6e
namespace Go.Proofs.Ytekilljcoplacaa.X
set_option linter.unusedVariables false
set_option linter.unusedSimpArgs false

section
variable {G : Gh} {L R : List Assn} {w : World} {p : Nat} {D : Dk}

theorem ints_get {l : List Int} {k : Nat} (h : k < l.length) : (ints l)[(k : Int).toNat]? = some (.int .i64 (l.getD k 0)) := by simp [ints, h]

theorem ct_ref00_EqInts {v v' : Value} {l l' : List Int} (hw : Sat G L w) (ka : Knows L (SlV v (ints l))) (kb : Knows L (SlV v' (ints l'))) (hl : l.length ≤ 140737488355328) (hl' : l'.length ≤ 140737488355328) :
    Calls Try.prog 36 #[v, v'] w (Ret fun r w' => r = .bool (decide (l = l')) ∧ Sat G L w') := by
  obtain ⟨a, cap, rfl⟩ := ((ka.of (by repeat (first | exact Suf.refl _ | apply Suf.cons))).at hw).form
  obtain ⟨a', cap', rfl⟩ := ((kb.of (by repeat (first | exact Suf.refl _ | apply Suf.cons))).at hw).form
  simp only [ints_length] at ka kb ⊢
  refine calls_of_x (args := [_, _]) func_ref00_EqInts rfl nt_ref00_EqInts rfl ?_
  refine x_seq ?_
  refine x_region rfl ?_
  refine x_as rfl rfl trivial rfl ?_  -- ref.go:94 assign False
  refine xl_nil ?_
  refine x_seq ?_
  refine x_seq ?_
  refine x_region rfl ?_
  refine x_mv rfl rfl trivial rfl ?_  -- ref.go:95 move t0
  refine x_len rfl rfl trivial rfl U_sl_int rfl ?_  -- ref.go:95 len(t6)
  refine x_mv rfl rfl trivial rfl ?_  -- ref.go:95 move t1
  refine x_len rfl rfl trivial rfl U_sl_int rfl ?_  -- ref.go:95 len(t8)
  refine x_ne rfl rfl trivial rfl rfl rfl ?_  -- ref.go:95 neq[3] t7 t9
  refine xl_nil ?_
  refine x_if rfl (fun h1 => ?_) (fun h1 => ?_)
  · -- yes
    have hne : ¬ l = l' := fun h => by subst h; omega
    refine x_seq ?_
    refine x_region rfl ?_
    refine x_as rfl rfl trivial rfl ?_  -- ref.go:96 assign False
    refine xl_nil ?_
    refine x_ret ?_
    exact end1 rfl rfl ⟨by simp [hne], hw⟩
  · -- no
    have hll : l.length = l'.length := by omega
    refine x_skip ?_
    refine x_seq ?_
    refine x_seq ?_
    refine x_region rfl ?_
    refine x_as rfl rfl trivial rfl ?_  -- ref.go:98 assign 0
    refine xl_nil ?_
    refine x_block ?_
    refine x_loop (fun m e w => ∃ k : Nat, k ≤ l.length ∧ m = l.length - k ∧ e = [(0, .slice a l.length cap), (1, .slice a' l'.length cap'), (5, .int .i64 k)] ∧ (∀ j, j < k → l.getD j 0 = l'.getD j 0) ∧ Sat G L w)
      (m := l.length) (e₀ := [(0, .slice a l.length cap), (1, .slice a' l'.length cap'), (5, .int .i64 (0 : Nat))]) (by repeat (first | exact Sub.nil _ | refine Sub.cons rfl ?_))
      ⟨0, Nat.zero_le _, rfl, rfl, (fun j h => by omega), hw⟩ ?_
    rintro m e w ⟨k, hk, rfl, rfl, hci, hw⟩
    refine x_seq ?_
    refine x_seq ?_
    refine x_region rfl ?_
    refine x_mv rfl rfl trivial rfl ?_  -- ref.go:98 move t5
    refine x_mv rfl rfl trivial rfl ?_  -- ref.go:98 move t0
    refine x_len rfl rfl trivial rfl U_sl_int rfl ?_  -- ref.go:98 len(t12)
    refine x_lt rfl rfl trivial rfl rfl ?_  -- ref.go:98 lss[3] t11 t13
    refine xl_nil ?_
    refine x_if rfl (fun h2 => ?_) (fun h2 => ?_)
    · -- yes
      have hk' : k < l.length := by omega
      obtain ⟨b, o, rfl⟩ := ((ka.of (by repeat (first | exact Suf.refl _ | apply Suf.cons))).at hw).nn (by rw [ints_length]; omega)
      obtain ⟨b', o', rfl⟩ := ((kb.of (by repeat (first | exact Suf.refl _ | apply Suf.cons))).at hw).nn (by rw [ints_length]; omega)
      refine x_skip ?_
      refine x_seq ?_
      refine x_block ?_
      refine x_seq ?_
      refine x_draw [0, 1, 2, 3, 4, 5, 6, 7, 8] mixed (by kernel_rfl) ?_  -- region 6
      replace hw := hw.drawn (w.drawn + 1)
      refine x_mv rfl rfl trivial rfl ?_  -- ref.go:99 move t0
      refine x_mv rfl rfl trivial rfl ?_  -- ref.go:99 move t5
      refine x_idx1 rfl rfl trivial U_sl_int sz_int rfl rfl ⟨by omega, by omega⟩ ?_  -- ref.go:99 indexAddr[52] t17 [t18] 
      refine x_ld rfl rfl trivial rfl (Loads.one one_int (((ka.of (by repeat (first | exact Suf.refl _ | apply Suf.cons))).at hw).at (ints_get hk'))) ?_  -- ref.go:99 load[3] t19
      refine x_mv rfl rfl trivial rfl ?_  -- ref.go:99 move t1
      refine x_mv rfl rfl trivial rfl ?_  -- ref.go:99 move t5
      refine x_idx1 rfl rfl trivial U_sl_int sz_int rfl rfl ⟨by omega, by omega⟩ ?_  -- ref.go:99 indexAddr[52] t21 [t22] 
      refine x_ld rfl rfl trivial rfl (Loads.one one_int (((kb.of (by repeat (first | exact Suf.refl _ | apply Suf.cons))).at hw).at (ints_get (by omega : k < l'.length)))) ?_  -- ref.go:99 load[3] t23
      refine x_ne rfl rfl trivial rfl rfl rfl ?_  -- ref.go:99 neq[3] t20 t24
      refine xl_nil ?_
      refine x_if rfl (fun h3 => ?_) (fun h3 => ?_)
      · -- yes
        have hne : ¬ l = l' := fun h => h3 (by rw [h])
        refine x_seq ?_
        refine x_region rfl ?_
        refine x_as rfl rfl trivial rfl ?_  -- ref.go:100 assign False
        refine xl_nil ?_
        refine x_ret ?_
        exact end1 rfl rfl ⟨by simp [hne], hw⟩
      · -- no
        refine x_skip ?_
        refine x_region rfl ?_
        refine x_mv rfl rfl trivial rfl ?_  -- ref.go:98 move t5
        refine x_addi rfl rfl trivial rfl rfl (by omega) ?_  -- ref.go:98 add[3] t15 1
        refine x_as rfl rfl trivial rfl ?_  -- ref.go:98 assign t16
        refine xl_nil ?_
        refine ⟨l.length - (k + 1), by omega, [(0, _), (1, _), (5, .int .i64 (k + 1 : Nat))], (by repeat (first | exact Sub.nil _ | refine Sub.cons rfl ?_)), k + 1, by omega, rfl, rfl, fun j hj => ?_, hw⟩
        by_cases hjk : j = k
        · subst hjk; exact Decidable.not_not.1 h3
        · exact hci j (by omega)
    · -- no
      refine x_exit rfl ?_  -- exit 0
      refine x_seq ?_
      refine x_region rfl ?_
      refine x_as rfl rfl trivial rfl ?_  -- ref.go:103 assign True
      refine xl_nil ?_
      refine x_ret ?_
      exact end1 rfl rfl (by
  have hkk : k = l.length := by omega
  have he : l = l' := by
    apply List.ext_getElem hll
    intro j h1 h2
    have := hci j (by omega)
    simpa [h1, h2] using this
  exact ⟨by simp [he], hw⟩)

theorem rowI {L R : List Assn} {T n : Nat} {v : Value} {l : List Int} (hn : l.length = n) (q : Pick (row T 1 v n (ints l)) L R) : Knows L (SlV v (ints l)) := by
  subst hn
  have h : Knows [row T 1 v (ints l).length (ints l)] (SlV v (ints l)) := SlV.row
  rw [ints_length] at h
  exact (h.head _).pick q

/-! ### Disks that differ in what they counted alone -/
structure Alike (D D' : Dk) : Prop where
  lasts : D.lasts = D'.lasts
  ws : D.ws = D'.ws
  on : D.on = D'.on
  alarm : D.alarm = D'.alarm
theorem Alike.step {D D' : Dk} (h : Alike D D') (o : OpV) : Alike (stepD D o) (stepD D' o) := by
  obtain ⟨l, ws, on, al, a, b⟩ := D
  obtain ⟨l', ws', on', al', a', b'⟩ := D'
  obtain ⟨h1, h2, h3, h4⟩ := h
  simp only at h1 h2 h3 h4
  subst h1; subst h2; subst h3; subst h4
  simp only [stepD, Dk.write, Dk.sync, Dk.arm, Dk.failed, Dk.onK, Dk.lay, Dk.wr, Dk.tick, Dk.settled]
  repeat' split
  all_goals exact ⟨rfl, rfl, rfl, rfl⟩
theorem Alike.run {D D' : Dk} (h : Alike D D') : ∀ os : List OpV, Alike (runD D os) (runD D' os) := by
  intro os
  induction os generalizing D D' with
  | nil => exact h
  | cons o os ih => exact ih (h.step o)
theorem Alike.img {D D' : Dk} (h : Alike D D') : D.img = D'.img := by unfold Dk.img; rw [h.lasts]
theorem Alike.nos {D D' : Dk} (h : Alike D D') : D.nos = D'.nos := by unfold Dk.nos; rw [h.ws]
theorem Alike.wholeX {D D' : Dk} (h : Alike D D') : D.wholeX = D'.wholeX := by
  have h1 : D.shows = D'.shows := by funext i; simp only [Dk.shows, h.ws, h.lasts]
  simp only [Dk.wholeX, Dk.wholeB, h1, h.on, h.lasts]

theorem chunk_flat : ∀ (B : List Bys) (i : Nat) (hi : i < B.length), (∀ x ∈ B, x.length = 512) → chunk B.flatten i = B[i]
  | x :: B, 0, _, hB => by
    have := hB x (List.mem_cons_self ..)
    simp [chunk, List.take_append, this]
  | x :: B, i + 1, hi, hB => by
    have hx := hB x (List.mem_cons_self ..)
    have := chunk_flat B i (by simpa using hi) fun y hy => hB y (List.mem_cons_of_mem _ hy)
    simp only [chunk, List.flatten_cons, List.getElem_cons_succ] at this ⊢
    rw [List.drop_append, hx, List.drop_eq_nil_of_le (by omega), List.nil_append, show 512 * (i + 1) - 512 = 512 * i by omega]; exact this
theorem chunks_flat {B : List Bys} (hB : ∀ x ∈ B, x.length = 512) : chunks B.flatten B.length = B := by
  apply List.ext_getElem
  · simp [chunks]
  · intro i h1 h2
    simp only [chunks, List.getElem_map, List.getElem_range]
    exact chunk_flat B i h2 hB
theorem settle_none : ∀ (ws : List (Nat × Bys)) (k : Nat) (l : List Bys), settleL (keepQ []) ws k l = l
  | [], _, _ => rfl
  | (i, c) :: r, k, l => by simp only [settleL, settle_none r]; simp [keepQ]

theorem again_facts {E : Dk} (hok : E.Ok) : ∃ M N : Dk, E.failed.onK [] = M ∧ Fits8 E.img ∧ Dk.new (chunks E.img (E.img.length / 512)) = N ∧ Alike M N ∧ N.wholeX = E.img ∧ N.img = E.img ∧ M.wrote = E.wrote ∧ M.synced = E.synced ∧ N.wrote = 0 ∧ N.synced = 0 := by
  have hl := hok.img
  have h1 := hok.lo
  have h2 := hok.hi
  have hq : E.img.length / 512 = E.lasts.length := by omega
  have hc : chunks E.img (E.img.length / 512) = E.lasts := by rw [hq]; exact chunks_flat hok.blk
  refine ⟨⟨E.lasts, [], true, -1, E.wrote, E.synced⟩, Dk.new E.lasts, ?_, ⟨by omega, by omega, by omega⟩, by rw [hc], ⟨rfl, rfl, rfl, rfl⟩, ?_, rfl, rfl, rfl, rfl, rfl⟩
  · unfold Dk.onK; simp [Dk.failed, settle_none]
  · simp only [Dk.wholeX, Dk.new, if_true]; exact whole_nows (D := Dk.new E.lasts) rfl

theorem ct_law06_DiskAgain_nil {n : Int} {sv v v' : Value} {l : Bys} {os os' : List OpV} (hw : Sat G L w) (ka : Knows L (SlB sv l)) (hll : l.length ≤ 140737488355328) (ko : Script L v os) (kp : Script L v' os') (hD : startD n l = none) :
    Calls Try.prog 13 #[.agg #[.int .i64 n, sv], v, v'] w (Ret fun r w' => r = .bool true ∧ Sat G L w') := by
  obtain ⟨a, cap, rfl, hcap, hasp⟩ := (ko.sl.at hw).form
  obtain ⟨a', cap', rfl, hcap', hasp'⟩ := (kp.sl.at hw).form
  refine calls_of_x (args := [_, _, _]) func_law06_DiskAgain rfl nt_law06_DiskAgain rfl ?_
  refine x_seq ?_
  refine x_region rfl ?_
  refine x_box rfl rfl trivial rfl rfl hw rfl (fun w b3 hw => ?_)  -- law.go:305 box[37] t0
  refine x_as rfl rfl trivial rfl ?_  -- law.go:305 assign False
  refine xl_nil ?_
  refine x_seq ?_
  refine x_region rfl ?_
  refine x_mv rfl rfl trivial rfl ?_  -- law.go:306 move t1
  refine x_mv rfl rfl trivial rfl ?_  -- law.go:306 move t1
  refine x_len rfl rfl trivial rfl U_sl_coppicelaw06_Op rfl ?_  -- law.go:306 len(t11)
  -- law.go:306 min(t12, 60)
  refine x_min2 rfl rfl trivial rfl rfl ?_
  -- law.go:306 slice[38] t10 [-:t13:-]
  refine x_cutH rfl rfl trivial U_sl_coppicelaw06_Op szs_coppicelaw06_Op rfl hasp rfl ⟨by omega, by omega⟩ ?_
  refine x_as rfl rfl trivial rfl ?_  -- law.go:306 assign t14
  refine xl_nil ?_
  refine x_seq ?_
  refine x_region rfl ?_
  refine x_mv rfl rfl trivial rfl ?_  -- law.go:307 move t2
  refine x_mv rfl rfl trivial rfl ?_  -- law.go:307 move t2
  refine x_len rfl rfl trivial rfl U_sl_coppicelaw06_Op rfl ?_  -- law.go:307 len(t16)
  -- law.go:307 min(t17, 60)
  refine x_min2 rfl rfl trivial rfl rfl ?_
  -- law.go:307 slice[38] t15 [-:t18:-]
  refine x_cutH rfl rfl trivial U_sl_coppicelaw06_Op szs_coppicelaw06_Op rfl hasp' rfl ⟨by omega, by omega⟩ ?_
  refine x_as rfl rfl trivial rfl ?_  -- law.go:307 assign t19
  refine xl_nil ?_
  refine x_seq ?_
  refine x_seq ?_
  refine x_region rfl ?_
  refine x_call rfl rfl trivial cal_law06_works rfl (ct_law06_works hw) rfl (fun w v20 hv => ?_)  -- law.go:308 call f18 coppice/coppicelaw06.works()
  obtain ⟨rfl, hw⟩ := hv
  -- law.go:308 unOp "not" 4 20
  refine x_not rfl rfl trivial rfl ?_
  refine xl_nil ?_
  refine x_cond_false rfl ?_
  refine x_skip ?_
  refine x_seq ?_
  refine x_region rfl ?_
  refine x_ld rfl rfl trivial rfl (Loads.blkA many_coppicelaw06_Start hw (by repeat (first | with_reducible exact Pick.here | apply Pick.there)) (by simp)) ?_  -- law.go:311 load[37] t3
  refine x_call rfl rfl trivial cal_law06_started rfl (ct_law06_started (n := n) (l := l) hw (ka.of (by repeat (first | exact Suf.refl _ | apply Suf.cons))) hll) rfl (fun w v23 hv => ?_)  -- law.go:311 call f22 coppice/coppicelaw06.started(t22)
  obtain ⟨-, rfl, hw⟩ | ⟨D, q, h1, -, -⟩ := hv
  case inr => rw [hD] at h1; cases h1
  refine x_as rfl rfl trivial rfl ?_  -- law.go:311 assign t23
  refine xl_nil ?_
  refine x_seq ?_
  refine x_seq ?_
  refine x_region rfl ?_
  refine x_mv rfl rfl trivial rfl ?_  -- law.go:312 move t7
  refine x_eqnil rfl rfl trivial rfl U_p_disk_Disk rfl ?_  -- law.go:312 eql[25] t24 {'nilptr': 1}
  refine xl_nil ?_
  refine x_cond_true rfl ?_
  refine x_seq ?_
  refine x_region rfl ?_
  refine x_as rfl rfl trivial rfl ?_  -- law.go:313 assign True
  refine xl_nil ?_
  refine x_ret ?_
  exact end1 rfl rfl ⟨rfl, hw.tail⟩

theorem ct_law06_DiskAgain_go {n : Int} {sv v v' : Value} {l : Bys} {os os' : List OpV} (hw : Sat G L w) (ka : Knows L (SlB sv l)) (hll : l.length ≤ 140737488355328) (ko : Script L v os) (kp : Script L v' os') (hD : startD n l = some D) :
    Calls Try.prog 13 #[.agg #[.int .i64 n, sv], v, v'] w (Ret fun r w' => r = .bool true ∧ Sat G L w') := by
  obtain ⟨a, cap, rfl, hcap, hasp⟩ := (ko.sl.at hw).form
  obtain ⟨a', cap', rfl, hcap', hasp'⟩ := (kp.sl.at hw).form
  obtain ⟨-, -, -, hwr, hsyn⟩ := startD_fresh hD
  refine calls_of_x (args := [_, _, _]) func_law06_DiskAgain rfl nt_law06_DiskAgain rfl ?_
  refine x_seq ?_
  refine x_region rfl ?_
  refine x_box rfl rfl trivial rfl rfl hw rfl (fun w b3 hw => ?_)  -- law.go:305 box[37] t0
  refine x_as rfl rfl trivial rfl ?_  -- law.go:305 assign False
  refine xl_nil ?_
  refine x_seq ?_
  refine x_region rfl ?_
  refine x_mv rfl rfl trivial rfl ?_  -- law.go:306 move t1
  refine x_mv rfl rfl trivial rfl ?_  -- law.go:306 move t1
  refine x_len rfl rfl trivial rfl U_sl_coppicelaw06_Op rfl ?_  -- law.go:306 len(t11)
  -- law.go:306 min(t12, 60)
  refine x_min2 rfl rfl trivial rfl rfl ?_
  -- law.go:306 slice[38] t10 [-:t13:-]
  refine x_cutH rfl rfl trivial U_sl_coppicelaw06_Op szs_coppicelaw06_Op rfl hasp rfl ⟨by omega, by omega⟩ ?_
  have hsl : Knows L (SlO (.slice a (os.take 60).length cap) (os.take 60)) := ko.sl.mono fun w h => h.take 60
  have hok : ∀ o ∈ os.take 60, o.Ok L := fun o h => ko.ok o (List.mem_of_mem_take h)
  have hlen : (os.take 60).length ≤ 60 := by simp; omega
  rw [show (min (os.length : Int) 60).toNat = (os.take 60).length by simp; omega]
  generalize os.take 60 = os1 at hsl hok hlen ⊢
  refine x_as rfl rfl trivial rfl ?_  -- law.go:306 assign t14
  refine xl_nil ?_
  refine x_seq ?_
  refine x_region rfl ?_
  refine x_mv rfl rfl trivial rfl ?_  -- law.go:307 move t2
  refine x_mv rfl rfl trivial rfl ?_  -- law.go:307 move t2
  refine x_len rfl rfl trivial rfl U_sl_coppicelaw06_Op rfl ?_  -- law.go:307 len(t16)
  -- law.go:307 min(t17, 60)
  refine x_min2 rfl rfl trivial rfl rfl ?_
  -- law.go:307 slice[38] t15 [-:t18:-]
  refine x_cutH rfl rfl trivial U_sl_coppicelaw06_Op szs_coppicelaw06_Op rfl hasp' rfl ⟨by omega, by omega⟩ ?_
  have hsl' : Knows L (SlO (.slice a' (os'.take 60).length cap') (os'.take 60)) := kp.sl.mono fun w h => h.take 60
  have hok' : ∀ o ∈ os'.take 60, o.Ok L := fun o h => kp.ok o (List.mem_of_mem_take h)
  have hlen' : (os'.take 60).length ≤ 60 := by simp; omega
  rw [show (min (os'.length : Int) 60).toNat = (os'.take 60).length by simp; omega]
  generalize os'.take 60 = os2 at hsl' hok' hlen' ⊢
  have hsm := hsl'
  refine x_as rfl rfl trivial rfl ?_  -- law.go:307 assign t19
  refine xl_nil ?_
  refine x_seq ?_
  refine x_seq ?_
  refine x_region rfl ?_
  refine x_call rfl rfl trivial cal_law06_works rfl (ct_law06_works hw) rfl (fun w v20 hv => ?_)  -- law.go:308 call f18 coppice/coppicelaw06.works()
  obtain ⟨rfl, hw⟩ := hv
  -- law.go:308 unOp "not" 4 20
  refine x_not rfl rfl trivial rfl ?_
  refine xl_nil ?_
  refine x_cond_false rfl ?_
  refine x_skip ?_
  refine x_seq ?_
  refine x_region rfl ?_
  refine x_ld rfl rfl trivial rfl (Loads.blkA many_coppicelaw06_Start hw (by repeat (first | with_reducible exact Pick.here | apply Pick.there)) (by simp)) ?_  -- law.go:311 load[37] t3
  refine x_call rfl rfl trivial cal_law06_started rfl (ct_law06_started (n := n) (l := l) hw (ka.of (by repeat (first | exact Suf.refl _ | apply Suf.cons))) hll) rfl (fun w v23 hv => ?_)  -- law.go:311 call f22 coppice/coppicelaw06.started(t22)
  obtain ⟨h1, -, -⟩ | ⟨D', q1, h1, rfl, hw⟩ := hv
  case inl => rw [hD] at h1; cases h1
  obtain rfl : D = D' := by rw [hD] at h1; exact Option.some.inj h1
  refine x_as rfl rfl trivial rfl ?_  -- law.go:311 assign t23
  refine xl_nil ?_
  refine x_seq ?_
  refine x_seq ?_
  refine x_region rfl ?_
  refine x_mv rfl rfl trivial rfl ?_  -- law.go:312 move t7
  refine x_eqnil rfl rfl trivial rfl U_p_disk_Disk rfl ?_  -- law.go:312 eql[25] t24 {'nilptr': 1}
  refine xl_nil ?_
  refine x_cond_false rfl ?_
  refine x_skip ?_
  refine x_seq ?_
  refine x_region rfl ?_
  refine x_mv rfl rfl trivial rfl ?_  -- law.go:315 move t7
  refine x_mv rfl rfl trivial rfl ?_  -- law.go:315 move t1
  refine x_call rfl rfl trivial cal_law06_run rfl (ct_law06_run (D := D) (os := os1) (hw.pick (A := dsk q1 D) (by repeat (first | with_reducible exact Pick.here | apply Pick.there))) (hsl.of (by repeat (first | exact Suf.refl _ | apply Suf.cons))) (fun o h => (hok o h).of (by repeat (first | exact Suf.refl _ | apply Suf.cons))) hlen ⟨by omega, by omega⟩) rfl (fun w v28 hv => ?_)  -- law.go:315 call f32 coppice/coppicelaw06.run(t26, t27)
  obtain ⟨-, hw⟩ := hv
  have hcnt := runD_cnt D os1
  generalize runD D os1 = E at hw hcnt
  have hEok := (dsk_open hw).1
  have hhi := hEok.hi
  have hil := hEok.img
  obtain ⟨M, N, hM, hF, hN, hMN, hNw, hNi, hMc, hMs, hNc, hNs⟩ := again_facts hEok
  refine xl_nil ?_
  refine x_seq ?_
  refine x_region rfl ?_
  refine x_mv rfl rfl trivial rfl ?_  -- law.go:316 move t7
  refine x_call rfl rfl trivial cal_disk_Disk_Image rfl (ct_disk_Disk_Image (D := E) (p := q1) hw) rfl (fun w v31 hv => ?_)  -- law.go:316 call f20 (*coppice/disk.Disk).Image(t30)
  have hw := hv
  refine x_call rfl rfl trivial cal_disk_From rfl (ct_disk_From (v := v31) (l := E.img) hw (rowB hil (by repeat (first | with_reducible exact Pick.here | apply Pick.there))) (by omega)) rfl (fun w v32 hv => ?_)  -- law.go:316 call f16 coppice/disk.From(t31)
  obtain ⟨h, -⟩ | ⟨-, q2, rfl, hw⟩ := hv
  case inl => exact absurd hF h
  rw [hN] at hw
  refine x_mv rfl rfl trivial rfl ?_  -- law.go:316 move t32
  refine x_ext rfl rfl trivial rfl rfl ?_  -- law.go:316 extract t29 .0
  refine x_ext rfl rfl trivial rfl rfl ?_  -- law.go:316 extract t29 .1
  refine x_as rfl rfl trivial rfl ?_  -- law.go:316 assign t33
  refine x_as rfl rfl trivial rfl ?_  -- law.go:316 assign t34
  refine xl_nil ?_
  refine x_seq ?_
  refine x_seq ?_
  refine x_region rfl ?_
  refine x_mv rfl rfl trivial rfl ?_  -- law.go:317 move t9
  refine x_ne rfl rfl trivial rfl rfl rfl ?_  -- law.go:317 neq[26] t35 0
  refine x_mv rfl rfl trivial rfl ?_  -- law.go:317 move t36
  refine xl_split (d := 37) rfl (fun h3 => ?_) (fun h3 => ?_)
  · -- yes
    exact absurd rfl h3
  · -- no
    refine x_mv rfl rfl ⟨_, rfl, rfl⟩ rfl ?_  -- law.go:317 move t8
    refine x_eqnil rfl rfl ⟨_, rfl, rfl⟩ rfl U_p_disk_Disk rfl ?_  -- law.go:317 eql[25] t38 {'nilptr': 1}
    refine x_pickF rfl rfl trivial rfl rfl rfl ?_  -- law.go:317 pick t37 ? True : t39
    refine x_mv rfl rfl trivial rfl ?_  -- law.go:317 move t40
    refine x_mv rfl rfl ⟨_, rfl, rfl⟩ rfl ?_  -- law.go:317 move t8
    refine x_call rfl rfl ⟨_, rfl, rfl⟩ cal_law06_whole rfl (ct_whole (D := N) (p := q2) hw) rfl (fun w v43 hv => ?_)  -- law.go:317 call f21 coppice/coppicelaw06.whole(t42)
    have hw := hv
    rw [hNw] at hw
    refine x_mv rfl rfl ⟨_, rfl, rfl⟩ rfl ?_  -- law.go:317 move t7
    refine x_call rfl rfl ⟨_, rfl, rfl⟩ cal_disk_Disk_Image rfl (ct_disk_Disk_Image (D := E) (p := q1) (hw.pick (A := dsk q1 E) (by repeat (first | with_reducible exact Pick.here | apply Pick.there)))) rfl (fun w v45 hv => ?_)  -- law.go:317 call f20 (*coppice/disk.Disk).Image(t44)
    have hw := hv
    refine x_call rfl rfl ⟨_, rfl, rfl⟩ cal_ref00_EqBytes rfl (ct_ref00_EqBytes (v := v43) (v' := v45) (l := E.img) (l' := E.img) hw (rowB (n := E.img.length) rfl (by repeat (first | with_reducible exact Pick.here | apply Pick.there))) (rowB (n := 512 * E.lasts.length) hil (by repeat (first | with_reducible exact Pick.here | apply Pick.there))) (by omega) (by omega)) rfl (fun w v46 hv => ?_)  -- law.go:317 call f19 coppice/coppiceref00.EqBytes(t43, t45)
    obtain ⟨rfl, hw⟩ := hv
    refine x_notp rfl rfl ⟨_, rfl, rfl⟩ rfl ?_  -- law.go:317 unOp "not" 4 46
    refine x_pickF rfl rfl trivial rfl rfl rfl ?_  -- law.go:317 pick t41 ? True : t47
    refine x_mv rfl rfl trivial rfl ?_  -- law.go:317 move t48
    refine xl_split (d := 49) rfl (fun h5 => ?_) (fun h5 => ?_)
    · -- yes
      exact absurd rfl h5
    · -- no
      refine x_mv rfl rfl ⟨_, rfl, rfl⟩ rfl ?_  -- law.go:317 move t8
      refine x_call rfl rfl ⟨_, rfl, rfl⟩ cal_disk_Disk_Image rfl (ct_disk_Disk_Image (D := N) (p := q2) (hw.pick (A := dsk q2 N) (by repeat (first | with_reducible exact Pick.here | apply Pick.there)))) rfl (fun w v51 hv => ?_)  -- law.go:317 call f20 (*coppice/disk.Disk).Image(t50)
      have hw := hv
      rw [hNi] at hw
      have hil2 : E.img.length = 512 * N.lasts.length := by rw [← hNi]; exact (dsk_open (hw.pick (A := dsk q2 N) (by repeat (first | with_reducible exact Pick.here | apply Pick.there)))).1.img
      refine x_mv rfl rfl ⟨_, rfl, rfl⟩ rfl ?_  -- law.go:317 move t7
      refine x_call rfl rfl ⟨_, rfl, rfl⟩ cal_disk_Disk_Image rfl (ct_disk_Disk_Image (D := E) (p := q1) (hw.pick (A := dsk q1 E) (by repeat (first | with_reducible exact Pick.here | apply Pick.there)))) rfl (fun w v53 hv => ?_)  -- law.go:317 call f20 (*coppice/disk.Disk).Image(t52)
      have hw := hv
      refine x_call rfl rfl ⟨_, rfl, rfl⟩ cal_ref00_EqBytes rfl (ct_ref00_EqBytes (v := v51) (v' := v53) (l := E.img) (l' := E.img) hw (rowB (n := 512 * N.lasts.length) hil2 (by repeat (first | with_reducible exact Pick.here | apply Pick.there))) (rowB (n := 512 * E.lasts.length) hil (by repeat (first | with_reducible exact Pick.here | apply Pick.there))) (by omega) (by omega)) rfl (fun w v54 hv => ?_)  -- law.go:317 call f19 coppice/coppiceref00.EqBytes(t51, t53)
      obtain ⟨rfl, hw⟩ := hv
      refine x_notp rfl rfl ⟨_, rfl, rfl⟩ rfl ?_  -- law.go:317 unOp "not" 4 54
      refine x_pickF rfl rfl trivial rfl rfl rfl ?_  -- law.go:317 pick t49 ? True : t55
      refine xl_nil ?_
      refine x_if rfl (fun h6 => ?_) (fun h6 => ?_)
      · -- yes
        exact absurd rfl h6
      · -- no
        refine x_skip ?_
        refine x_seq ?_
        refine x_region rfl ?_
        refine x_mv rfl rfl trivial rfl ?_  -- law.go:320 move t7
        refine x_call rfl rfl trivial cal_disk_Disk_Off rfl (ct_Off (D := E) (p := q1) (hw.pick (A := dsk q1 E) (by repeat (first | with_reducible exact Pick.here | apply Pick.there)))) rfl (fun w v58 hv => ?_)  -- law.go:320 call f33 (*coppice/disk.Disk).Off(t57)
        obtain ⟨-, hw⟩ := hv
        refine xl_nil ?_
        refine x_seq ?_
        refine x_region rfl ?_
        refine x_mv rfl rfl trivial rfl ?_  -- law.go:321 move t7
        refine x_call rfl rfl trivial cal_disk_Disk_On rfl (ct_disk_Disk_On (D := E.failed) (kl := []) (p := q1) hw (fun _ _ _ => .inl ⟨⟨none, rfl⟩, rfl⟩) (by show E.wrote < _; omega)) rfl (fun w v60 hv => ?_)  -- law.go:321 call f34 (*coppice/disk.Disk).On(t59, {'nilslice': 1})
        obtain ⟨-, hw⟩ := hv
        rw [hM] at hw
        refine xl_nil ?_
        refine x_seq ?_
        refine x_region rfl ?_
        refine x_mv rfl rfl trivial rfl ?_  -- law.go:322 move t7
        refine x_mv rfl rfl trivial rfl ?_  -- law.go:322 move t2
        refine x_call rfl rfl trivial cal_law06_run rfl (ct_law06_run (D := M) (os := os2) (hw.pick (A := dsk q1 M) (by repeat (first | with_reducible exact Pick.here | apply Pick.there))) (hsm.of (by repeat (first | exact Suf.refl _ | apply Suf.cons))) (fun o h => (hok' o h).of (by repeat (first | exact Suf.refl _ | apply Suf.cons))) hlen' ⟨by omega, by omega⟩) rfl (fun w v63 hv => ?_)  -- law.go:322 call f32 coppice/coppicelaw06.run(t61, t62)
        obtain ⟨-, hw⟩ := hv
        refine xl_nil ?_
        refine x_seq ?_
        refine x_region rfl ?_
        refine x_mv rfl rfl trivial rfl ?_  -- law.go:323 move t8
        refine x_mv rfl rfl trivial rfl ?_  -- law.go:323 move t2
        refine x_call rfl rfl trivial cal_law06_run rfl (ct_law06_run (D := N) (os := os2) (hw.pick (A := dsk q2 N) (by repeat (first | with_reducible exact Pick.here | apply Pick.there))) (hsm.of (by repeat (first | exact Suf.refl _ | apply Suf.cons))) (fun o h => (hok' o h).of (by repeat (first | exact Suf.refl _ | apply Suf.cons))) hlen' ⟨by omega, by omega⟩) rfl (fun w v66 hv => ?_)  -- law.go:323 call f32 coppice/coppicelaw06.run(t64, t65)
        obtain ⟨-, hw⟩ := hv
        have hXY := hMN.run os2
        have hcX := runD_cnt M os2
        have hcY := runD_cnt N os2
        generalize runD M os2 = X at hw hXY hcX
        generalize runD N os2 = Y at hw hXY hcY
        have hXok := (dsk_open (hw.pick (A := dsk q1 X) (by repeat (first | with_reducible exact Pick.here | apply Pick.there)))).1
        have hYok := (dsk_open hw).1
        have hXi := hXok.img
        have hYi := hYok.img
        have hXh := hXok.hi
        have hYh := hYok.hi
        have hXn := hXok.cnt
        have hYn := hYok.cnt
        refine xl_nil ?_
        refine x_seq ?_
        refine x_region rfl ?_
        refine x_mv rfl rfl trivial rfl ?_  -- law.go:324 move t7
        refine x_call rfl rfl trivial cal_disk_Disk_IsOn rfl (ct_disk_Disk_IsOn (D := X) (p := q1) (hw.pick (A := dsk q1 X) (by repeat (first | with_reducible exact Pick.here | apply Pick.there)))) rfl (fun w v68 hv => ?_)  -- law.go:324 call f27 (*coppice/disk.Disk).IsOn(t67)
        obtain ⟨rfl, hw⟩ := hv
        refine x_mv rfl rfl trivial rfl ?_  -- law.go:324 move t8
        refine x_call rfl rfl trivial cal_disk_Disk_IsOn rfl (ct_disk_Disk_IsOn (D := Y) (p := q2) (hw.pick (A := dsk q2 Y) (by repeat (first | with_reducible exact Pick.here | apply Pick.there)))) rfl (fun w v70 hv => ?_)  -- law.go:324 call f27 (*coppice/disk.Disk).IsOn(t69)
        obtain ⟨rfl, hw⟩ := hv
        refine x_eqb rfl rfl trivial rfl U_bool rfl rfl ?_  -- law.go:324 eql[4] t68 t70
        refine x_mv rfl rfl trivial rfl ?_  -- law.go:324 move t71
        refine xl_split (d := 72) rfl (fun h7 => ?_) (fun h7 => ?_)
        · -- yes
          refine x_mv rfl rfl ⟨_, rfl, rfl⟩ rfl ?_  -- law.go:324 move t7
          refine x_call rfl rfl ⟨_, rfl, rfl⟩ cal_disk_Disk_Image rfl (ct_disk_Disk_Image (D := X) (p := q1) (hw.pick (A := dsk q1 X) (by repeat (first | with_reducible exact Pick.here | apply Pick.there)))) rfl (fun w v74 hv => ?_)  -- law.go:324 call f20 (*coppice/disk.Disk).Image(t73)
          have hw := hv
          refine x_mv rfl rfl ⟨_, rfl, rfl⟩ rfl ?_  -- law.go:324 move t8
          refine x_call rfl rfl ⟨_, rfl, rfl⟩ cal_disk_Disk_Image rfl (ct_disk_Disk_Image (D := Y) (p := q2) (hw.pick (A := dsk q2 Y) (by repeat (first | with_reducible exact Pick.here | apply Pick.there)))) rfl (fun w v76 hv => ?_)  -- law.go:324 call f20 (*coppice/disk.Disk).Image(t75)
          have hw := hv
          refine x_call rfl rfl ⟨_, rfl, rfl⟩ cal_ref00_EqBytes rfl (ct_ref00_EqBytes (v := v74) (v' := v76) (l := X.img) (l' := Y.img) hw (rowB (n := 512 * X.lasts.length) hXi (by repeat (first | with_reducible exact Pick.here | apply Pick.there))) (rowB (n := 512 * Y.lasts.length) hYi (by repeat (first | with_reducible exact Pick.here | apply Pick.there))) (by omega) (by omega)) rfl (fun w v77 hv => ?_)  -- law.go:324 call f19 coppice/coppiceref00.EqBytes(t74, t76)
          obtain ⟨rfl, hw⟩ := hv
          refine x_pickT rfl rfl trivial rfl rfl rfl ?_  -- law.go:324 pick t72 ? t77 : False
          refine x_mv rfl rfl trivial rfl ?_  -- law.go:324 move t78
          refine xl_split (d := 79) rfl (fun h8 => ?_) (fun h8 => ?_)
          · -- yes
            refine x_mv rfl rfl ⟨_, rfl, rfl⟩ rfl ?_  -- law.go:324 move t7
            refine x_call rfl rfl ⟨_, rfl, rfl⟩ cal_disk_Disk_Unsynced rfl (ct_disk_Disk_Unsynced (D := X) (p := q1) (hw.pick (A := dsk q1 X) (by repeat (first | with_reducible exact Pick.here | apply Pick.there))) (by omega)) rfl (fun w v81 hv => ?_)  -- law.go:324 call f31 (*coppice/disk.Disk).Unsynced(t80)
            have hw := hv
            refine x_mv rfl rfl ⟨_, rfl, rfl⟩ rfl ?_  -- law.go:324 move t8
            refine x_call rfl rfl ⟨_, rfl, rfl⟩ cal_disk_Disk_Unsynced rfl (ct_disk_Disk_Unsynced (D := Y) (p := q2) (hw.pick (A := dsk q2 Y) (by repeat (first | with_reducible exact Pick.here | apply Pick.there))) (by omega)) rfl (fun w v83 hv => ?_)  -- law.go:324 call f31 (*coppice/disk.Disk).Unsynced(t82)
            have hw := hv
            refine x_call rfl rfl ⟨_, rfl, rfl⟩ cal_ref00_EqInts rfl (ct_ref00_EqInts (v := v81) (v' := v83) (l := X.nos) (l' := Y.nos) hw (rowI (n := X.ws.length) nos_length (by repeat (first | with_reducible exact Pick.here | apply Pick.there))) (rowI (n := Y.ws.length) nos_length (by repeat (first | with_reducible exact Pick.here | apply Pick.there))) (by rw [nos_length]; omega) (by rw [nos_length]; omega)) rfl (fun w v84 hv => ?_)  -- law.go:324 call f36 coppice/coppiceref00.EqInts(t81, t83)
            obtain ⟨rfl, hw⟩ := hv
            refine x_pickT rfl rfl trivial rfl rfl rfl ?_  -- law.go:324 pick t79 ? t84 : False
            refine x_mv rfl rfl trivial rfl ?_  -- law.go:324 move t85
            refine xl_split (d := 86) rfl (fun h9 => ?_) (fun h9 => ?_)
            · -- yes
              refine x_mv rfl rfl ⟨_, rfl, rfl⟩ rfl ?_  -- law.go:324 move t7
              refine x_call rfl rfl ⟨_, rfl, rfl⟩ cal_law06_whole rfl (ct_whole (D := X) (p := q1) (hw.pick (A := dsk q1 X) (by repeat (first | with_reducible exact Pick.here | apply Pick.there)))) rfl (fun w v88 hv => ?_)  -- law.go:324 call f21 coppice/coppicelaw06.whole(t87)
              have hw := hv
              refine x_mv rfl rfl ⟨_, rfl, rfl⟩ rfl ?_  -- law.go:324 move t8
              refine x_call rfl rfl ⟨_, rfl, rfl⟩ cal_law06_whole rfl (ct_whole (D := Y) (p := q2) (hw.pick (A := dsk q2 Y) (by repeat (first | with_reducible exact Pick.here | apply Pick.there)))) rfl (fun w v90 hv => ?_)  -- law.go:324 call f21 coppice/coppicelaw06.whole(t89)
              have hw := hv
              have hXw : X.wholeX.length ≤ 65536 * 512 := by
                unfold Dk.wholeX; split
                · rw [shows_flat_length hXok]; omega
                · simp
              refine x_call rfl rfl ⟨_, rfl, rfl⟩ cal_ref00_EqBytes rfl (ct_ref00_EqBytes (v := v88) (v' := v90) (l := X.wholeX) (l' := Y.wholeX) hw (rowB (n := X.wholeX.length) rfl (by repeat (first | with_reducible exact Pick.here | apply Pick.there))) (rowB (n := Y.wholeX.length) rfl (by repeat (first | with_reducible exact Pick.here | apply Pick.there))) (by omega) (by rw [← hXY.wholeX]; omega)) rfl (fun w v91 hv => ?_)  -- law.go:324 call f19 coppice/coppiceref00.EqBytes(t88, t90)
              obtain ⟨rfl, hw⟩ := hv
              refine x_pickT rfl rfl trivial rfl rfl rfl ?_  -- law.go:324 pick t86 ? t91 : False
              refine x_as rfl rfl trivial rfl ?_  -- law.go:324 assign t92
              refine xl_nil ?_
              refine x_ret ?_
              exact end1 rfl rfl ⟨by simp [hXY.wholeX], (by repeat (first | exact hw | replace hw := hw.tail))⟩
            · -- no
              exact absurd hXY.nos h9
          · -- no
            exact absurd hXY.img h8
        · -- no
          exact absurd hXY.on h7

theorem ct_law06_DiskAgain {n : Int} {sv v v' : Value} {l : Bys} {os os' : List OpV} (hw : Sat G L w) (ka : Knows L (SlB sv l)) (hll : l.length ≤ 140737488355328) (ko : Script L v os) (kp : Script L v' os') :
    Calls Try.prog 13 #[.agg #[.int .i64 n, sv], v, v'] w (Ret fun r w' => r = .bool true ∧ Sat G L w') := by
  cases hD : startD n l with
  | none => exact ct_law06_DiskAgain_nil hw ka hll ko kp hD
  | some D => exact ct_law06_DiskAgain_go hw ka hll ko kp hD
end
end Go.Proofs.Ytekilljcoplacaa.X
