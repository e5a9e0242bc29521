/- The disk of the program: settle, Sync, On, Arm, Image, Lay, Unsynced, From. -/
import Derived.Test.YtekilljcoplacaaXDisk
namespace Go.Proofs.Ytekilljcoplacaa.X
set_option linter.unusedVariables false
set_option linter.unusedSimpArgs false

theorem wcells_len {ws : List (Nat × Bys)} (h : ∀ x ∈ ws, x.2.length = 512) : ∀ x ∈ ws, (wcells x).length = 513 := fun x hx => by simp [wcells, bys_length, h x hx]

theorem row_some {G : Gh} {L : List Assn} {w : World} {T : TypeId} {z m c : Nat} {A : Option Addr} {xs : List Value} (hw : Sat G (row T z (.slice A m c) m xs :: L) w) (hm : 0 < m) : xs.length = m * z ∧
    ∃ b cur, A = some ⟨b, 0, none⟩ ∧ m ≤ c ∧ c ≤ maxLen ∧ (xs ++ cur).length = c * z ∧ Sat G (blk b (xs ++ cur) T :: L) w := by
  obtain ⟨h, hro⟩ := row_open hw
  refine ⟨h, ?_⟩
  rcases hro with ⟨_, h, _⟩ | ⟨b, cap', cur, h, h1, h2, h3, h4⟩
  · omega
  · cases h; exact ⟨b, cur, rfl, h1, h2, h3, h4⟩

/-- the writes that 'q' says, laid down -/
def settleL (q : Nat → Bool) : List (Nat × Bys) → Nat → List Bys → List Bys
  | [], _, l => l
  | (i, c) :: r, k, l => settleL q r (k + 1) (if q k then l.set i c else l)
theorem settleL_snoc (q : Nat → Bool) : ∀ (ws : List (Nat × Bys)) (i : Nat) (c : Bys) (k : Nat) (l : List Bys), settleL q (ws ++ [(i, c)]) k l = if q (k + ws.length) then (settleL q ws k l).set i c else settleL q ws k l
  | [], i, c, k, l => by simp [settleL]
  | (j, b) :: ws, i, c, k, l => by
    simp only [List.cons_append, settleL, settleL_snoc q ws, List.length_cons]
    rw [show k + 1 + ws.length = k + (ws.length + 1) by omega]
theorem settleL_length (q : Nat → Bool) : ∀ (ws : List (Nat × Bys)) (k : Nat) (l : List Bys), (settleL q ws k l).length = l.length
  | [], _, _ => rfl
  | (i, c) :: r, k, l => by simp only [settleL, settleL_length q r]; split <;> simp
theorem settleL_blk (q : Nat → Bool) : ∀ (ws : List (Nat × Bys)) (k : Nat) (l : List Bys), (∀ x ∈ ws, x.2.length = 512) → (∀ c ∈ l, c.length = 512) → ∀ c ∈ settleL q ws k l, c.length = 512
  | [], _, _, _, h => h
  | (i, b) :: r, k, l, hw, h => by
    simp only [settleL]
    refine settleL_blk q r (k + 1) _ (fun x hx => hw x (List.mem_cons_of_mem _ hx)) fun c hc => ?_
    split at hc
    · rcases List.mem_or_eq_of_mem_set hc with hc | rfl
      · exact h c hc
      · exact hw _ (List.mem_cons_self ..)
    · exact h c hc

def Dk.settled (D : Dk) (q : Nat → Bool) : Dk := ⟨settleL q D.ws 0 D.lasts, [], D.on, D.alarm, D.wrote, D.synced⟩
theorem Dk.Ok.settled {D : Dk} (h : D.Ok) (q : Nat → Bool) : (D.settled q).Ok :=
  ⟨by simp [Dk.settled, settleL_length]; exact h.lo, by simp [Dk.settled, settleL_length]; exact h.hi, settleL_blk q _ _ _ (fun x hx => (h.ws x hx).2) h.blk, by simp [Dk.settled], h.alarm, h.off, by simp [Dk.settled]⟩

section
variable {G : Gh} {L R : List Assn} {w : World} {p : Nat} {D : Dk}

/-- What a function value says of the number of a write. -/
def Says (f : FuncId) (c1 c2 : Array Value) (q : Nat → Bool) (L : List Assn) (m : Nat) : Prop :=
  ∀ (g : Gh) (k : Nat) (M : List Assn) (w : World), k < m → Sat g (M ++ L) w → Calls Try.prog f (c1.toList ++ [Value.int .i64 k] ++ c2.toList).toArray w (Ret fun v w' => v = .bool (q k) ∧ Sat g (M ++ L) w')

theorem ct_disk_Disk_settle {q : Nat → Bool} {f : FuncId} {c1 c2 : Array Value} (hw : Sat G (dsk p D :: L) w) (hf : Callable Try.prog f) (hq : Says f c1 c2 q L D.ws.length) (hcnt : D.wrote < 1000000000) :
    Calls Try.prog 52 #[.pointer (some ⟨p, 0, none⟩), .func (.func f) c1 c2] w (Ret fun v w' => v = .tuple #[] ∧ Sat G (dsk p (D.settled q) :: L) w') := by
  obtain ⟨hok, ml, ms, sv, kl, ks, hl, hs, hw⟩ := dsk_open hw
  simp only [dparts, dcells, List.cons_append, List.nil_append] at hw
  have hwl := wcells_len fun x hx => (hok.ws x hx).2
  have hcn := hok.cnt
  obtain ⟨a, cap, rfl⟩ := row_form (hw.pick (A := row _ _ _ _ _) (by repeat (first | with_reducible exact Pick.here | apply Pick.there)))
  refine calls_of_x (args := [_, _]) func_disk_Disk_settle rfl nt_disk_Disk_settle rfl ?_
  refine x_seq ?_
  refine x_seq ?_
  refine x_region rfl ?_
  refine x_mv rfl rfl trivial rfl ?_  -- disk.go:122 move t0
  refine x_nc rfl rfl trivial rfl ?_  -- disk.go:122 nilCheck t6
  refine x_fld rfl rfl trivial fo_disk_Disk_2 rfl ?_  -- disk.go:122 fieldAddr[86] t7 .writes(+2)
  refine x_ld rfl rfl trivial rfl (Loads.blk1 one_sl_disk_write hw (by repeat (first | with_reducible exact Pick.here | apply Pick.there)) rfl) ?_  -- disk.go:122 load[84] t8
  refine x_len rfl rfl trivial rfl U_sl_disk_write rfl ?_  -- disk.go:122 len(t9)
  refine x_mv rfl rfl trivial rfl ?_  -- disk.go:122 move 0
  refine xl_nil ?_
  refine x_block ?_
  refine x_loop (fun m e w => ∃ (k : Nat) (kl : KV), k ≤ D.ws.length ∧ m = D.ws.length - k ∧ e = [(0, .pointer (some ⟨p, 0, none⟩)), (1, .func (.func f) c1 c2), (9, .slice a D.ws.length cap), (10, .int .i64 D.ws.length), (11, .int .i64 k)] ∧ LastM kl (settleL q (D.ws.take k) 0 D.lasts) ∧ Sat G (blk p (dcells D.lasts.length ml ms (.slice a D.ws.length cap) D.on D.alarm D.wrote D.synced) 86 :: mapI ml kl :: mapI ms ks :: row 89 513 (.slice a D.ws.length cap) D.ws.length (D.ws.flatMap wcells) :: L) w)
    (m := D.ws.length) (e₀ := [(0, .pointer (some ⟨p, 0, none⟩)), (1, .func (.func f) c1 c2), (9, .slice a D.ws.length cap), (10, .int .i64 D.ws.length), (11, .int .i64 (0 : Nat))]) (by repeat (first | exact Sub.nil _ | refine Sub.cons rfl ?_))
    ⟨0, kl, Nat.zero_le _, rfl, rfl, hl, hw⟩ ?_
  rintro m e w ⟨k, kl, hk, rfl, rfl, hl, hw⟩
  simp only [dcells] at hw
  refine x_seq ?_
  refine x_region rfl ?_
  refine x_lt rfl rfl trivial rfl rfl ?_  -- disk.go:122 lss[3] t11 t10
  refine xl_nil ?_
  refine x_seq ?_
  refine x_if rfl (fun h1 => ?_) (fun h1 => ?_)
  · -- yes
    have hk' : k < D.ws.length := by omega
    obtain ⟨hfl, b, cur, rfl, hcc, hcm, hcl, hw⟩ := row_some (hw.pick (A := row _ _ _ _ _) (by repeat (first | with_reducible exact Pick.here | apply Pick.there))) (by omega)
    have hxl := (hok.ws _ (List.mem_of_getElem? (show D.ws[k]? = some (D.ws.getD k (0, zb)) by simp [hk'])))
    have hch := flat_chunk (cur := cur) (0, zb) hwl hk'
    generalize hx : D.ws.getD k (0, zb) = x at hxl hch
    obtain ⟨xi, xc⟩ := x
    refine x_skip ?_
    refine x_seq ?_
    refine x_block ?_
    refine x_seq ?_
    refine x_region rfl ?_
    refine x_mv rfl rfl trivial rfl ?_  -- disk.go:122 move t11
    -- disk.go:122 indexAddr[84] t9 [t11] 
    refine x_idx rfl rfl trivial U_sl_disk_write sz_disk_write rfl rfl ⟨by omega, by omega⟩ ?_
    refine x_ld rfl rfl trivial rfl (Loads.blkN (cs := wcells (xi, xc)) many_disk_write hw (by repeat (first | with_reducible exact Pick.here | apply Pick.there)) (by simpa using hch) (by simp [wcells, bys_length, hxl.2])) ?_  -- disk.go:122 load[89] t14
    -- disk.go:122 alloc 89
    refine x_alloc rfl rfl trivial z_disk_write hw rfl (fun w b5 hw => ?_)
    refine x_as rfl rfl trivial rfl ?_  -- disk.go:122 assign t13
    -- disk.go:122 store[89] t5 := t15
    refine x_stN (cs := wcells (xi, xc)) (l' := wcells (xi, xc)) rfl trivial rfl rfl many_disk_write (by simp [wcells, bys_length, hxl.2]) (ones_w _) hw (by repeat (first | with_reducible exact Pick.here | apply Pick.there)) (by simp) (by rw [List.drop_eq_nil_of_le (by simp)]; simp) rfl (fun w hw => ?_)
    refine xl_nil ?_
    refine x_seq ?_
    refine x_region rfl ?_
    refine x_mv rfl rfl trivial rfl ?_  -- disk.go:123 move t1
    refine x_mv rfl rfl trivial rfl ?_  -- disk.go:123 move t4
    -- disk.go:123 call t16(t17)
    refine x_callv rfl rfl trivial rfl hf rfl rfl (hq G k _ w hk' (hw.picks (As := [blk b5 _ _, blk p _ _, mapI ml _, mapI ms _, blk b _ _]) (by repeat (first | exact Picks.nil | (apply Picks.cons; repeat (first | with_reducible exact Pick.here | apply Pick.there)))))) rfl (fun w v18 hv => ?_)
    obtain ⟨rfl, hw⟩ := hv
    simp only [List.cons_append, List.nil_append] at hw
    refine xl_nil ?_
    refine x_cond rfl (fun h2 => ?_) (fun h2 => ?_)
    · -- yes
      refine x_region rfl ?_
      refine x_mv rfl rfl trivial rfl ?_  -- disk.go:124 move t0
      refine x_fld rfl rfl trivial fo_disk_write_0 rfl ?_  -- disk.go:124 fieldAddr[89] t5 .no(+0)
      refine x_ld rfl rfl trivial rfl (Loads.blk1 one_int hw (by repeat (first | with_reducible exact Pick.here | apply Pick.there)) rfl) ?_  -- disk.go:124 load[3] t20
      refine x_fld rfl rfl trivial fo_disk_write_1 rfl ?_  -- disk.go:124 fieldAddr[89] t5 .b(+1)
      refine x_ld rfl rfl trivial rfl (Loads.blkN (cs := bys xc) many_disk_block hw (by repeat (first | with_reducible exact Pick.here | apply Pick.there)) (by simp [wcells]; rw [List.take_of_length_le (by simp [bys_length, hxl.2])]) (by simp [bys_length, hxl.2])) ?_  -- disk.go:124 load[78] t22
      refine x_call rfl rfl trivial cal_disk_Disk_keep rfl (ct_disk_Disk_keep (n := D.lasts.length) (i := xi) (c := xc) (hw.picks (As := [blk p _ _, mapI ml _]) (by repeat (first | exact Picks.nil | (apply Picks.cons; repeat (first | with_reducible exact Pick.here | apply Pick.there))))) hxl.2) rfl (fun w v24 hv => ?_)  -- disk.go:124 call f47 (*coppice/disk.Disk).keep(t19, t21, t23)
      obtain ⟨-, hw⟩ := hv
      simp only [List.cons_append, List.nil_append, List.append_eq] at hw
      refine xl_nil ?_
      refine x_region rfl ?_
      refine x_addi rfl rfl trivial rfl rfl (by omega) ?_  -- disk.go:122 add[3] t11 1
      refine x_mv rfl rfl trivial rfl ?_  -- disk.go:122 move t25
      refine xl_nil ?_
      refine ⟨D.ws.length - (k + 1), by omega, [(0, _), (1, _), (9, _), (10, _), (11, .int .i64 (k + 1 : Nat))], (by repeat (first | exact Sub.nil _ | refine Sub.cons rfl ?_)), k + 1, kkeep kl xi xc, by omega, rfl, rfl, ?_, ?_⟩
      · rw [take_succ_getD D.ws k (0, zb) hk', hx, settleL_snoc, if_pos (by rw [List.length_take, Nat.min_eq_left hk, Nat.zero_add]; exact h2)]
        exact hl.keep (by rw [settleL_length]; exact hxl.1) xc
      · have h := hw.picks (As := [blk b _ _]) (by repeat (first | exact Picks.nil | (apply Picks.cons; repeat (first | with_reducible exact Pick.here | apply Pick.there))))
        simp only [List.cons_append, List.nil_append, List.append_eq] at h
        have h := (row_mk (m := D.ws.length) h hfl hcc hcm hcl).picks (As := [blk p _ _, mapI ml _, mapI ms _, row _ _ _ _ _]) (by repeat (first | exact Picks.nil | (apply Picks.cons; repeat (first | with_reducible exact Pick.here | apply Pick.there))))
        exact h.drop (.there (.there (.there (.there (Pick.here (A := blk b5 _ _))))))
    · -- no
      refine x_skip ?_
      refine x_region rfl ?_
      refine x_addi rfl rfl trivial rfl rfl (by omega) ?_  -- disk.go:122 add[3] t11 1
      refine x_mv rfl rfl trivial rfl ?_  -- disk.go:122 move t25
      refine xl_nil ?_
      refine ⟨D.ws.length - (k + 1), by omega, [(0, _), (1, _), (9, _), (10, _), (11, .int .i64 (k + 1 : Nat))], (by repeat (first | exact Sub.nil _ | refine Sub.cons rfl ?_)), k + 1, kl, by omega, rfl, rfl, ?_, ?_⟩
      · rw [take_succ_getD D.ws k (0, zb) hk', hx, settleL_snoc, if_neg (by rw [List.length_take, Nat.min_eq_left hk, Nat.zero_add, h2]; simp)]
        exact hl
      · have h := hw.picks (As := [blk b _ _]) (by repeat (first | exact Picks.nil | (apply Picks.cons; repeat (first | with_reducible exact Pick.here | apply Pick.there))))
        simp only [List.cons_append, List.nil_append, List.append_eq] at h
        have h := (row_mk (m := D.ws.length) h hfl hcc hcm hcl).picks (As := [blk p _ _, mapI ml _, mapI ms _, row _ _ _ _ _]) (by repeat (first | exact Picks.nil | (apply Picks.cons; repeat (first | with_reducible exact Pick.here | apply Pick.there))))
        exact h.drop (.there (.there (.there (.there (Pick.here (A := blk b5 _ _))))))
  · -- no
    have hkk : k = D.ws.length := by omega
    subst hkk
    rw [List.take_length] at hl
    refine x_exit rfl ?_  -- exit 0
    refine x_seq ?_
    refine x_region rfl ?_
    refine x_mv rfl rfl trivial rfl ?_  -- disk.go:127 move t0
    refine x_nc rfl rfl trivial rfl ?_  -- disk.go:127 nilCheck t26
    refine x_fld rfl rfl trivial fo_disk_Disk_2 rfl ?_  -- disk.go:127 fieldAddr[86] t27 .writes(+2)
    refine x_st1 (l' := [_, _, _, _, _, _, _, _]) rfl trivial rfl rfl one_sl_disk_write rfl hw (by repeat (first | with_reducible exact Pick.here | apply Pick.there)) rfl rfl rfl (fun w hw => ?_)  -- disk.go:127 store[84] t28 := {'nilslice': 1}
    refine xl_nil ?_
    refine x_region rfl ?_
    refine x_mv rfl rfl trivial rfl ?_  -- disk.go:128 move t0
    refine x_nc rfl rfl trivial rfl ?_  -- disk.go:128 nilCheck t29
    refine x_fld rfl rfl trivial fo_disk_Disk_3 rfl ?_  -- disk.go:128 fieldAddr[86] t30 .shown(+3)
    refine x_ld rfl rfl trivial rfl (Loads.blk1 one_m_int_disk_block hw (by repeat (first | with_reducible exact Pick.here | apply Pick.there)) rfl) ?_  -- disk.go:128 load[83] t31
    refine x_clr rfl trivial rfl U_m_int_disk_block rfl hw (by repeat (first | with_reducible exact Pick.here | apply Pick.there)) rfl (fun w hw => ?_)  -- disk.go:128 clear(t32)
    refine xl_nil ?_
    exact end0 rfl (by
  have h := hw.picks (As := [blk p _ _, mapI ml _, mapI ms _]) (by repeat (first | exact Picks.nil | (apply Picks.cons; repeat (first | with_reducible exact Pick.here | apply Pick.there))))
  have h := row_nil (h.drop (.there (.there (.there (Pick.here (A := row _ _ _ _ _)))))) 89 513
  have h := h.picks (As := [blk p _ _, mapI ml _, mapI ms _, row _ _ _ _ _]) (by repeat (first | exact Picks.nil | (apply Picks.cons; repeat (first | with_reducible exact Pick.here | apply Pick.there))))
  refine ⟨rfl, dsk_shut (D := D.settled q) (ml := ml) (ms := ms) (sv := .slice none 0 0) (hok.settled q) hl ShownM.nil (h.of_eq ?_)⟩
  simp [dparts, dcells, Dk.settled, settleL_length])

theorem ct_disk_Disk_Sync_1 {v : Value} (hw : Sat G L w) : Calls Try.prog 53 #[v] w (Ret fun r w' => r = .bool true ∧ Sat G L w') := by
  refine calls_of_x (args := [_]) func_disk_Disk_Sync_1 rfl nt_disk_Disk_Sync_1 rfl ?_
  refine x_seq ?_
  refine x_region rfl ?_
  refine x_as rfl rfl trivial rfl ?_  -- disk.go:136 assign False
  refine xl_nil ?_
  refine x_seq ?_
  refine x_region rfl ?_
  refine x_as rfl rfl trivial rfl ?_  -- disk.go:136 assign True
  refine xl_nil ?_
  refine x_ret ?_
  exact end1 rfl rfl ⟨rfl, hw⟩

def Dk.sync (D : Dk) : Int × Dk :=
  if D.on = false then (17, D) else if D.alarm = 0 then (17, D.failed) else (0, { D.tick.settled (fun _ => true) with synced := D.synced + 1 })

theorem ct_disk_Disk_Sync (hw : Sat G (dsk p D :: L) w) (hcnt : D.wrote < 1000000000) (hsyn : D.synced < 1000000000) :
    Calls Try.prog 24 #[.pointer (some ⟨p, 0, none⟩)] w (Ret fun r w' => r = .int .i64 D.sync.1 ∧ Sat G (dsk p D.sync.2 :: L) w') := by
  obtain ⟨hok, ml, ms, sv, kl, ks, hl, hs, hw⟩ := dsk_open hw
  simp only [dparts, dcells, List.cons_append, List.nil_append] at hw
  refine calls_of_x (args := [_]) func_disk_Disk_Sync rfl nt_disk_Disk_Sync rfl ?_
  refine x_seq ?_
  refine x_region rfl ?_
  refine x_as rfl rfl trivial rfl ?_  -- disk.go:132 assign 0
  refine xl_nil ?_
  refine x_seq ?_
  refine x_seq ?_
  refine x_region rfl ?_
  refine x_mv rfl rfl trivial rfl ?_  -- disk.go:133 move t0
  refine x_nc rfl rfl trivial rfl ?_  -- disk.go:133 nilCheck t3
  refine x_fld rfl rfl trivial fo_disk_Disk_4 rfl ?_  -- disk.go:133 fieldAddr[86] t4 .on(+4)
  refine x_ld rfl rfl trivial rfl (Loads.blk1 one_bool hw (by repeat (first | with_reducible exact Pick.here | apply Pick.there)) rfl) ?_  -- disk.go:133 load[4] t5
  -- disk.go:133 unOp "not" 4 6
  refine x_not rfl rfl trivial rfl ?_
  refine x_mv rfl rfl trivial rfl ?_  -- disk.go:133 move t7
  refine xl_splitb (d := 8) rfl (fun h1 => ?_) (fun h1 => ?_)
  · -- yes
    have hon : D.on = false := by simpa using h1
    refine xl_no rfl rfl rfl rfl rfl rfl ?_  -- passed over: move t0
    refine xl_no rfl rfl rfl rfl rfl rfl ?_  -- passed over: call f51 (*coppice/disk.Disk).act(t9)
    refine xl_no rfl rfl rfl rfl rfl rfl ?_  -- passed over: unOp "not" 4 10
    refine x_pickT rfl rfl trivial rfl rfl rfl ?_  -- disk.go:133 pick t8 ? True : t11
    refine xl_nil ?_
    refine x_cond_true rfl ?_
    refine x_seq ?_
    refine x_region rfl ?_
    refine x_as rfl rfl trivial rfl ?_  -- disk.go:134 assign 17
    refine xl_nil ?_
    refine x_ret ?_
    exact end1 rfl rfl (by unfold Dk.sync; rw [if_pos hon]; exact ⟨rfl, dsk_shut hok hl hs hw⟩)
  · -- no
    have hon : ¬ D.on = false := by simpa using h1
    refine x_mv rfl rfl ⟨_, rfl, rfl⟩ rfl ?_  -- disk.go:133 move t0
    refine x_call rfl rfl ⟨_, rfl, rfl⟩ cal_disk_Disk_act rfl (ct_disk_Disk_act hw hok.alarm) rfl (fun w v10 hv => ?_)  -- disk.go:133 call f51 (*coppice/disk.Disk).act(t9)
    obtain ⟨rfl, hw⟩ := hv
    refine x_notp rfl rfl ⟨_, rfl, rfl⟩ rfl ?_  -- disk.go:133 unOp "not" 4 10
    refine x_pickF rfl rfl trivial rfl rfl rfl ?_  -- disk.go:133 pick t8 ? True : t11
    refine xl_nil ?_
    refine x_if rfl (fun h2 => ?_) (fun h2 => ?_)
    · -- yes
      refine x_seq ?_
      refine x_region rfl ?_
      refine x_as rfl rfl trivial rfl ?_  -- disk.go:134 assign 17
      refine xl_nil ?_
      refine x_ret ?_
      exact end1 rfl rfl (by
  have h0 : D.alarm = 0 := Decidable.not_not.1 h2
  rw [if_pos h0, if_pos h0] at hw
  unfold Dk.sync; rw [if_neg hon, if_pos h0]; exact ⟨rfl, dsk_shut (D := D.failed) hok.failed hl hs hw⟩)
    · -- no
      have h0 : D.alarm ≠ 0 := Decidable.not_not.1 h2
      rw [if_neg h0, if_neg h0] at hw
      have hw := dsk_shut (D := D.tick) (hok.tick h0) hl hs hw
      refine x_skip ?_
      refine x_seq ?_
      refine x_region rfl ?_
      refine x_mv rfl rfl trivial rfl ?_  -- disk.go:136 move t0
      refine x_call rfl rfl trivial cal_disk_Disk_settle rfl (ct_disk_Disk_settle (D := D.tick) (q := fun _ => true) (f := 53) (c1 := #[]) (c2 := #[]) hw cal_disk_Disk_Sync_1 (fun g k M w _ h => ct_disk_Disk_Sync_1 h) hcnt) rfl (fun w v14 hv => ?_)  -- disk.go:136 call f52 (*coppice/disk.Disk).settle(t13, F53)
      obtain ⟨-, hw⟩ := hv
      obtain ⟨hok', ml, ms, sv, kl, ks, hl, hs, hw⟩ := dsk_open hw
      simp only [dparts, dcells, List.cons_append, List.nil_append] at hw
      have hsy : (D.tick.settled fun _ => true).synced = D.synced := rfl
      rw [hsy] at hw
      refine xl_nil ?_
      refine x_seq ?_
      refine x_region rfl ?_
      refine x_mv rfl rfl trivial rfl ?_  -- disk.go:137 move t0
      refine x_nc rfl rfl trivial rfl ?_  -- disk.go:137 nilCheck t15
      refine x_fld rfl rfl trivial fo_disk_Disk_7 rfl ?_  -- disk.go:137 fieldAddr[86] t16 .synced(+7)
      refine x_ld rfl rfl trivial rfl (Loads.blk1 one_int hw (by repeat (first | with_reducible exact Pick.here | apply Pick.there)) rfl) ?_  -- disk.go:137 load[3] t17
      refine x_addi rfl rfl trivial rfl rfl (by omega) ?_  -- disk.go:137 add[3] t18 1
      refine x_nc rfl rfl trivial rfl ?_  -- disk.go:137 nilCheck t15
      refine x_fld rfl rfl trivial fo_disk_Disk_7 rfl ?_  -- disk.go:137 fieldAddr[86] t20 .synced(+7)
      refine x_st1 (l' := [_, _, _, _, _, _, _, _]) rfl trivial rfl rfl one_int rfl hw (by repeat (first | with_reducible exact Pick.here | apply Pick.there)) rfl rfl rfl (fun w hw => ?_)  -- disk.go:137 store[3] t21 := t19
      refine xl_nil ?_
      refine x_seq ?_
      refine x_region rfl ?_
      refine x_as rfl rfl trivial rfl ?_  -- disk.go:138 assign 0
      refine xl_nil ?_
      refine x_ret ?_
      exact end1 rfl rfl (by
  unfold Dk.sync; rw [if_neg hon, if_neg h0]
  exact ⟨rfl, dsk_shut (D := { D.tick.settled (fun _ => true) with synced := D.synced + 1 }) ⟨hok'.lo, hok'.hi, hok'.blk, hok'.ws, hok'.alarm, hok'.off, hok'.cnt⟩ hl hs hw⟩)

def Dk.arm (D : Dk) (n : Int) : Dk := if D.on then { D with alarm := max n (-1) } else D
theorem ct_disk_Disk_Arm {n : Int} (hw : Sat G (dsk p D :: L) w) (hn : n ≤ 9223372036854775807) :
    Calls Try.prog 23 #[.pointer (some ⟨p, 0, none⟩), .int .i64 n] w (Ret fun r w' => r = .tuple #[] ∧ Sat G (dsk p (D.arm n) :: L) w') := by
  obtain ⟨hok, ml, ms, sv, kl, ks, hl, hs, hw⟩ := dsk_open hw
  simp only [dparts, dcells, List.cons_append, List.nil_append] at hw
  refine calls_of_x (args := [_, _]) func_disk_Disk_Arm rfl nt_disk_Disk_Arm rfl ?_
  refine x_seq ?_
  refine x_region rfl ?_
  refine x_mv rfl rfl trivial rfl ?_  -- disk.go:143 move t0
  refine x_nc rfl rfl trivial rfl ?_  -- disk.go:143 nilCheck t4
  refine x_fld rfl rfl trivial fo_disk_Disk_4 rfl ?_  -- disk.go:143 fieldAddr[86] t5 .on(+4)
  refine x_ld rfl rfl trivial rfl (Loads.blk1 one_bool hw (by repeat (first | with_reducible exact Pick.here | apply Pick.there)) rfl) ?_  -- disk.go:143 load[4] t6
  refine xl_nil ?_
  refine x_cond rfl (fun h1 => ?_) (fun h1 => ?_)
  · -- yes
    refine x_region rfl ?_
    refine x_mv rfl rfl trivial rfl ?_  -- disk.go:144 move t0
    refine x_mv rfl rfl trivial rfl ?_  -- disk.go:144 move t1
    refine x_max2 rfl rfl trivial rfl rfl ?_  -- disk.go:144 max(t9, -1)
    refine x_nc rfl rfl trivial rfl ?_  -- disk.go:144 nilCheck t8
    refine x_fld rfl rfl trivial fo_disk_Disk_5 rfl ?_  -- disk.go:144 fieldAddr[86] t11 .alarm(+5)
    refine x_st1 (l' := [_, _, _, _, _, _, _, _]) rfl trivial rfl rfl one_int rfl hw (by repeat (first | with_reducible exact Pick.here | apply Pick.there)) rfl rfl rfl (fun w hw => ?_)  -- disk.go:144 store[3] t12 := t10
    refine xl_nil ?_
    exact end0 rfl (by
  unfold Dk.arm; rw [if_pos h1]
  exact ⟨rfl, dsk_shut (D := { D with alarm := max n (-1) }) ⟨hok.lo, hok.hi, hok.blk, hok.ws, by simp only; omega, (fun h => by rw [h1] at h; cases h), hok.cnt⟩ hl hs hw⟩)
  · -- no
    refine x_skip ?_
    exact end0 rfl (by unfold Dk.arm; rw [h1]; exact ⟨rfl, dsk_shut hok hl hs hw⟩)

end
end Go.Proofs.Ytekilljcoplacaa.X
