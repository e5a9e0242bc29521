/- The helpers of the laws of layer 6: whole of a disk without power, Unsynced, EqInts. -/
import Derived.Test.YtekilljcoplacaaXLaw6d
namespace Go.Proofs.Ytekilljcoplacaa.X
set_option linter.unusedVariables false
set_option linter.unusedSimpArgs false

section
variable {P : Program} {n : Nat} {ops : Array Oper} {dr : Bool} {done r : List Nat} {i : Nat} {K : Cont} {e : Env} {w : World} {d : Nat} {x y : Operand} {s t : TypeId} {p : String} {af : Array Edge} {g : Option (Nat × Bool)}
/-- 'append' of nothing to nothing. -/
theorem x_app0 {c : TypeId} {z : Nat} (ho : ops[i]? = some ⟨some d, .call ⟨.builtin .append, #[x, y], #[s, s]⟩, t, p, af, g⟩) (hd : Nat.blt d n = true) (hg : Gd ops e g) (hs : P.underlying s = some (.slice c)) (hzc : (P.info? c).map (·.size) = some z)
    (hx : ev e x = some (.slice none 0 0)) (hy : ev e y = some (.slice none 0 0)) (hpd : pend P ops dr done i = []) (h : XL P n ops dr (i :: done) r K ((d, .slice none 0 0) :: e) w) : XL P n ops dr done (i :: r) K e w := by
  cases hi : P.info? c with
  | none => simp [hi] at hzc
  | some inf =>
    have hrun : (Builtin.append_ #[s, s] t #[.slice none 0 0, .slice none 0 0]).run P w = .ok (.slice none 0 0) w := by
      simp [Builtin.append_, run_underlying hs, sizeOf, typeInfo, hi, Builtin.lenOf, Builtin.firstCells, loadCells, loadCellsFrom]
    refine xl_eff ho (by simpa [dstOk] using hd) hg (ρ := rh e) (by intro z hZ; simp [Op.operands, Call.operands] at hZ; exact oh2 hx hy hZ) rfl (v := .slice none 0 0) (w' := w) ?_ (noPend hpd) h
    simp only [execOp, resolve, invoke, builtin, Sem.run_bind, Sem.run_pure, Result.andThen_ok, List.map_toArray, List.map_cons, List.map_nil, rh_of hx, rh_of hy, hrun]
end

section
variable {G : Gh} {L R : List Assn} {w : World} {p : Nat} {D : Dk}

theorem ct_law06_whole_off (hw : Sat G (dsk p D :: L) w) (hon : D.on = false) :
    Calls Try.prog 21 #[.pointer (some ⟨p, 0, none⟩)] w (Ret fun v w' => v = .slice none 0 0 ∧ Sat G (dsk p D :: L) w') := by
  have hok := (dsk_open hw).1
  have hhi := hok.hi
  refine calls_of_x (args := [_]) func_law06_whole rfl nt_law06_whole rfl ?_
  refine x_seq ?_
  refine x_region rfl ?_
  refine x_as rfl rfl trivial rfl ?_  -- law.go:205 assign {'nilslice': 1}
  refine xl_nil ?_
  refine x_seq ?_
  refine x_region rfl ?_
  refine x_as rfl rfl trivial rfl ?_  -- law.go:206 assign {'nilslice': 1}
  refine xl_nil ?_
  refine x_seq ?_
  refine x_seq ?_
  refine x_region rfl ?_
  refine x_as rfl rfl trivial rfl ?_  -- law.go:207 assign 0
  refine xl_nil ?_
  refine x_block ?_
  refine x_loop (fun m e w => ∃ (k : Nat), k ≤ D.lasts.length ∧ m = D.lasts.length - k ∧ e = [(0, .pointer (some ⟨p, 0, none⟩)), (3, .slice none 0 0), (4, .int .i64 k)] ∧ Sat G (dsk p D :: L) w)
    (m := D.lasts.length) (e₀ := [(0, .pointer (some ⟨p, 0, none⟩)), (3, .slice none 0 0), (4, .int .i64 (0 : Nat))]) (by repeat (first | exact Sub.nil _ | refine Sub.cons rfl ?_))
    ⟨0, Nat.zero_le _, rfl, rfl, hw⟩ ?_
  rintro m e w ⟨k, hk, rfl, rfl, hw⟩
  refine x_seq ?_
  refine x_seq ?_
  refine x_region rfl ?_
  refine x_mv rfl rfl trivial rfl ?_  -- law.go:207 move t4
  refine x_mv rfl rfl trivial rfl ?_  -- law.go:207 move t0
  refine x_call rfl rfl trivial cal_disk_Disk_Blocks rfl (ct_disk_Disk_Blocks (D := D) hw) rfl (fun w v9 hv => ?_)  -- law.go:207 call f29 (*coppice/disk.Disk).Blocks(t8)
  obtain ⟨rfl, hw⟩ := hv
  refine x_lt rfl rfl trivial rfl rfl ?_  -- law.go:207 lss[3] t7 t9
  refine x_mv rfl rfl trivial rfl ?_  -- law.go:207 move t10
  refine xl_split (d := 11) rfl (fun h1 => ?_) (fun h1 => ?_)
  · -- yes
    refine x_mv rfl rfl ⟨_, rfl, rfl⟩ rfl ?_  -- law.go:207 move t4
    refine x_le rfl rfl ⟨_, rfl, rfl⟩ rfl rfl ?_  -- law.go:207 leq[3] t12 65536
    refine x_pickT rfl rfl trivial rfl rfl rfl ?_  -- law.go:207 pick t11 ? t13 : False
    refine xl_nil ?_
    refine x_if rfl (fun h2 => ?_) (fun h2 => ?_)
    · -- yes
      refine x_skip ?_
      refine x_seq ?_
      refine x_block ?_
      refine x_seq ?_
      refine x_region rfl ?_
      refine x_mv rfl rfl trivial rfl ?_  -- law.go:208 move t0
      refine x_mv rfl rfl trivial rfl ?_  -- law.go:208 move t4
      refine x_call rfl rfl trivial cal_disk_Disk_Read rfl (ct_disk_Disk_Read (D := D) (i := (k : Int)) hw) rfl (fun w v20 hv => ?_)  -- law.go:208 call f40 (*coppice/disk.Disk).Read(t18, t19)
      obtain ⟨-, rfl, hw⟩ | ⟨h, -⟩ | ⟨h, -⟩ := hv
      case inr.inl => rw [hon] at h; cases h
      case inr.inr => rw [hon] at h; cases h
      refine x_mv rfl rfl trivial rfl ?_  -- law.go:208 move t20
      refine x_ext rfl rfl trivial rfl rfl ?_  -- law.go:208 extract t17 .0
      refine x_ext rfl rfl trivial rfl rfl ?_  -- law.go:208 extract t17 .1
      refine x_as rfl rfl trivial rfl ?_  -- law.go:208 assign t21
      refine x_as rfl rfl trivial rfl ?_  -- law.go:208 assign t22
      refine xl_nil ?_
      refine x_region rfl ?_
      refine x_mv rfl rfl trivial rfl ?_  -- law.go:209 move t3
      refine x_mv rfl rfl trivial rfl ?_  -- law.go:209 move t5
      -- law.go:209 append(t23, t24)
      refine x_app0 rfl rfl trivial U_sl_uint8 sz_uint8 rfl rfl rfl ?_
      refine x_as rfl rfl trivial rfl ?_  -- law.go:209 assign t25
      refine xl_nil ?_
      refine x_region rfl ?_
      refine x_mv rfl rfl trivial rfl ?_  -- law.go:207 move t4
      refine x_addi rfl rfl trivial rfl rfl (by omega) ?_  -- law.go:207 add[3] t15 1
      refine x_as rfl rfl trivial rfl ?_  -- law.go:207 assign t16
      refine xl_nil ?_
      exact ⟨D.lasts.length - (k + 1), by omega, [(0, _), (3, _), (4, .int .i64 (k + 1 : Nat))], (by repeat (first | exact Sub.nil _ | refine Sub.cons rfl ?_)), k + 1, by omega, rfl, rfl, hw⟩
    · -- no
      omega
  · -- no
    refine xl_no rfl rfl rfl rfl rfl rfl ?_  -- passed over: move t4
    refine xl_no rfl rfl rfl rfl rfl rfl ?_  -- passed over: leq[3] t12 65536
    refine x_pickF rfl rfl trivial rfl rfl rfl ?_  -- law.go:207 pick t11 ? t13 : False
    refine xl_nil ?_
    refine x_cond_false rfl ?_
    refine x_exit rfl ?_  -- exit 0
    refine x_seq ?_
    refine x_region rfl ?_
    refine x_mv rfl rfl trivial rfl ?_  -- law.go:211 move t3
    refine x_as rfl rfl trivial rfl ?_  -- law.go:211 assign t26
    refine xl_nil ?_
    refine x_ret ?_
    exact end1 rfl rfl ⟨rfl, hw⟩

/-- what 'whole' gives -/
def Dk.wholeX (D : Dk) : Bys := if D.on then D.wholeB D.lasts.length else []
theorem shows_flat_length (h : D.Ok) : ∀ k, (D.wholeB k).length = k * 512
  | 0 => rfl
  | k + 1 => by rw [wholeB_succ, List.length_append, shows_flat_length h k, shows_length h]; omega
theorem ct_whole (hw : Sat G (dsk p D :: L) w) : Calls Try.prog 21 #[.pointer (some ⟨p, 0, none⟩)] w (Ret fun v w' => Sat G (row 5 1 v D.wholeX.length (bys D.wholeX) :: dsk p D :: L) w') := by
  have hok := (dsk_open hw).1
  cases hon : D.on with
  | true =>
    refine (ct_law06_whole hw hon).mono fun e w' h => ?_
    obtain ⟨v, rfl, hw⟩ := h
    refine ⟨v, rfl, ?_⟩
    simp only [Dk.wholeX, hon, if_true, shows_flat_length hok]
    exact hw
  | false =>
    refine (ct_law06_whole_off hw hon).mono fun e w' h => ?_
    obtain ⟨v, rfl, rfl, hw⟩ := h
    refine ⟨_, rfl, ?_⟩
    have h1 : D.wholeX = [] := by simp [Dk.wholeX, hon]
    rw [h1]
    exact row_nil hw 5 1

def ints (l : List Int) : List Value := l.map (.int .i64 ·)
theorem ints_length (l : List Int) : (ints l).length = l.length := by simp [ints]
def Dk.nos (D : Dk) : List Int := D.ws.map fun x => (x.1 : Int)
theorem nos_length : D.nos.length = D.ws.length := by simp [Dk.nos]

theorem ct_disk_Disk_Unsynced (hw : Sat G (dsk p D :: L) w) (hcnt : D.wrote < 1000000000) :
    Calls Try.prog 31 #[.pointer (some ⟨p, 0, none⟩)] w (Ret fun v w' => Sat G (row 3 1 v D.ws.length (ints D.nos) :: dsk p D :: L) w') := by
  obtain ⟨hok, ml, ms, sv, kl, ks, hl, hs, hw⟩ := dsk_open hw
  simp only [dparts, dcells, List.cons_append, List.nil_append] at hw
  have hwl := wcells_len fun x hx => (hok.ws x hx).2
  have hcn := hok.cnt
  obtain ⟨a, cap, rfl⟩ := row_form (hw.pick (A := row _ _ _ _ _) (by repeat (first | with_reducible exact Pick.here | apply Pick.there)))
  have hw := row_nil hw 3 1
  refine calls_of_x (args := [_]) func_disk_Disk_Unsynced rfl nt_disk_Disk_Unsynced rfl ?_
  refine x_seq ?_
  refine x_region rfl ?_
  refine x_as rfl rfl trivial rfl ?_  -- disk.go:164 assign {'nilslice': 1}
  refine xl_nil ?_
  refine x_seq ?_
  refine x_region rfl ?_
  refine x_as rfl rfl trivial rfl ?_  -- disk.go:165 assign {'nilslice': 1}
  refine xl_nil ?_
  refine x_seq ?_
  refine x_seq ?_
  refine x_region rfl ?_
  refine x_mv rfl rfl trivial rfl ?_  -- disk.go:166 move t0
  refine x_nc rfl rfl trivial rfl ?_  -- disk.go:166 nilCheck t6
  refine x_fld rfl rfl trivial fo_disk_Disk_2 rfl ?_  -- disk.go:166 fieldAddr[86] t7 .writes(+2)
  refine x_ld rfl rfl trivial rfl (Loads.blk1 one_sl_disk_write hw (by repeat (first | with_reducible exact Pick.here | apply Pick.there)) rfl) ?_  -- disk.go:166 load[84] t8
  refine x_len rfl rfl trivial rfl U_sl_disk_write rfl ?_  -- disk.go:166 len(t9)
  refine x_mv rfl rfl trivial rfl ?_  -- disk.go:166 move 0
  refine xl_nil ?_
  refine x_block ?_
  refine x_loop (fun m e w => ∃ (k : Nat) (u : Value), k ≤ D.ws.length ∧ m = D.ws.length - k ∧ e = [(3, u), (9, .slice a D.ws.length cap), (10, .int .i64 D.ws.length), (11, .int .i64 k)] ∧ Sat G (row 3 1 u k (ints (D.nos.take k)) :: blk p (dcells D.lasts.length ml ms (.slice a D.ws.length cap) D.on D.alarm D.wrote D.synced) 86 :: mapI ml kl :: mapI ms ks :: row 89 513 (.slice a D.ws.length cap) D.ws.length (D.ws.flatMap wcells) :: L) w)
    (m := D.ws.length) (e₀ := [(3, .slice none 0 0), (9, .slice a D.ws.length cap), (10, .int .i64 D.ws.length), (11, .int .i64 (0 : Nat))]) (by repeat (first | exact Sub.nil _ | refine Sub.cons rfl ?_))
    ⟨0, _, Nat.zero_le _, rfl, rfl, hw⟩ ?_
  rintro m e w ⟨k, u, hk, rfl, rfl, hw⟩
  simp only [dcells] at hw
  refine x_seq ?_
  refine x_region rfl ?_
  refine x_lt rfl rfl trivial rfl rfl ?_  -- disk.go:166 lss[3] t11 t10
  refine xl_nil ?_
  refine x_seq ?_
  refine x_if rfl (fun h1 => ?_) (fun h1 => ?_)
  · -- yes
    have hk' : k < D.ws.length := by omega
    obtain ⟨hfl, b, cur, rfl, hcc, hcm, hcl, hw⟩ := row_some (hw.pick (A := row 89 _ _ _ _) (by repeat (first | with_reducible exact Pick.here | apply Pick.there))) (by omega)
    have hxl := (hok.ws _ (List.mem_of_getElem? (show D.ws[k]? = some (D.ws.getD k (0, zb)) by simp [hk'])))
    have hch := flat_chunk (cur := cur) (0, zb) hwl hk'
    have hnk : D.nos.take (k + 1) = D.nos.take k ++ [((D.ws.getD k (0, zb)).1 : Int)] := by
      rw [take_succ_getD D.nos k ((0 : Nat) : Int) (by rw [nos_length]; exact hk')]
      simp [Dk.nos, hk']
    generalize hx : D.ws.getD k (0, zb) = x at hxl hch hnk
    obtain ⟨xi, xc⟩ := x
    refine x_skip ?_
    refine x_seq ?_
    refine x_block ?_
    refine x_seq ?_
    refine x_region rfl ?_
    -- disk.go:166 indexAddr[84] t9 [t11] 
    refine x_idx rfl rfl trivial U_sl_disk_write sz_disk_write rfl rfl ⟨by omega, by omega⟩ ?_
    refine x_ld rfl rfl trivial rfl (Loads.blkN (cs := wcells (xi, xc)) many_disk_write hw (by repeat (first | with_reducible exact Pick.here | apply Pick.there)) (by simpa using hch) (by simp [wcells, bys_length, hxl.2])) ?_  -- disk.go:166 load[89] t13
    -- disk.go:166 alloc 89
    refine x_alloc rfl rfl trivial z_disk_write hw rfl (fun w b5 hw => ?_)
    -- disk.go:166 store[89] t5 := t14
    refine x_stN (cs := wcells (xi, xc)) (l' := wcells (xi, xc)) rfl trivial rfl rfl many_disk_write (by simp [wcells, bys_length, hxl.2]) (ones_w _) hw (by repeat (first | with_reducible exact Pick.here | apply Pick.there)) (by simp) (by rw [List.drop_eq_nil_of_le (by simp)]; simp) rfl (fun w hw => ?_)
    refine xl_nil ?_
    refine x_region rfl ?_
    refine x_mv rfl rfl trivial rfl ?_  -- disk.go:167 move t3
    refine x_fld rfl rfl trivial fo_disk_write_0 rfl ?_  -- disk.go:167 fieldAddr[89] t5 .no(+0)
    refine x_ld rfl rfl trivial rfl (Loads.blk1 one_int hw (by repeat (first | with_reducible exact Pick.here | apply Pick.there)) rfl) ?_  -- disk.go:167 load[3] t16
    refine x_bs1 rfl rfl trivial U_sl_int sz_int zs_int (by decide) rfl rfl rfl hw rfl (fun w b18 hw => ?_)  -- disk.go:167 buildSlice 52 1 [[0, 17]]
    -- disk.go:167 append(t15, t18)
    refine x_app (m := k) (k := 1) (news := [.int .i64 xi]) rfl rfl trivial U_sl_int sz_int by_int zs_int rfl rfl hw (by repeat (first | with_reducible exact Pick.here | apply Pick.there)) (Rd.blk0 hw (by repeat (first | with_reducible exact Pick.here | apply Pick.there))) rfl (by intro u hu; simp at hu; subst hu; rfl) (by simp only [maxLen]; omega) (by omega) rfl (fun w v19 hw => ?_)
    refine x_as rfl rfl trivial rfl ?_  -- disk.go:167 assign t19
    refine xl_nil ?_
    refine x_region rfl ?_
    refine x_addi rfl rfl trivial rfl rfl (by omega) ?_  -- disk.go:166 add[3] t11 1
    refine x_mv rfl rfl trivial rfl ?_  -- disk.go:166 move t20
    refine xl_nil ?_
    refine ⟨D.ws.length - (k + 1), by omega, [(3, _), (9, _), (10, _), (11, .int .i64 (k + 1 : Nat))], (by repeat (first | exact Sub.nil _ | refine Sub.cons rfl ?_)), k + 1, v19, by omega, rfl, rfl, ?_⟩
    have h := hw.picks (As := [blk b _ 89]) (by repeat (first | exact Picks.nil | (apply Picks.cons; repeat (first | with_reducible exact Pick.here | apply Pick.there))))
    simp only [List.cons_append, List.nil_append, List.append_eq] at h
    have h := (row_mk (m := D.ws.length) h hfl hcc hcm hcl).picks (As := [row 3 _ _ _ _, blk p _ _, mapI ml _, mapI ms _, row 89 _ _ _ _]) (by repeat (first | exact Picks.nil | (apply Picks.cons; repeat (first | with_reducible exact Pick.here | apply Pick.there))))
    have h := h.drop (.there (.there (.there (.there (.there (Pick.here (A := blk b18 _ _)))))))
    have h := h.drop (.there (.there (.there (.there (.there (Pick.here (A := blk b5 _ _)))))))
    rw [hnk]
    simp only [ints, List.map_append, List.map_cons, List.map_nil] at h ⊢
    exact h
  · -- no
    refine x_exit rfl ?_  -- exit 0
    refine x_seq ?_
    refine x_region rfl ?_
    refine x_mv rfl rfl trivial rfl ?_  -- disk.go:169 move t3
    refine x_as rfl rfl trivial rfl ?_  -- disk.go:169 assign t21
    refine xl_nil ?_
    refine x_ret ?_
    exact end1 rfl rfl (by
  have hkk : k = D.ws.length := by omega
  subst hkk
  rw [List.take_of_length_le (by rw [nos_length]; exact Nat.le_refl _)] at hw
  have h := hw.picks (As := [blk p _ _, mapI ml _, mapI ms _, row 89 _ _ _ _]) (by repeat (first | exact Picks.nil | (apply Picks.cons; repeat (first | with_reducible exact Pick.here | apply Pick.there))))
  have h := dsk_shut (D := D) (ml := ml) (ms := ms) hok hl hs h
  exact h.pick (.there .here))

end
end Go.Proofs.Ytekilljcoplacaa.X
