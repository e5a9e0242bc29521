/- The law DiskAlarm, walked. -/
import Derived.Test.YtekilljcoplacaaXLaw6
import Derived.Test.YtekilljcoplacaaXDisk4
namespace Go.Proofs.Ytekilljcoplacaa.X
set_option linter.unusedVariables false
set_option linter.unusedSimpArgs false

/-- A call of a script. -/
structure OpV where
  kind : Int
  i : Int
  b : Value
  keep : Value
  bl : Bys
  kl : List Bool
def OpV.cells (o : OpV) : List Value := [.int .i64 o.kind, .int .i64 o.i, o.b, o.keep]

/-- The slice 'v' is this row of calls. -/
def SlO (v : Value) (os : List OpV) (w : World) : Prop := ((∃ a, v = .slice a 0 0 ∧ ∀ x, a = some x → x.spot = none) ∧ os = []) ∨ ∃ b o cap, v = .slice (some ⟨b, o, none⟩) os.length cap ∧ os.length ≤ cap ∧ Rd w ⟨b, o, none⟩ (os.flatMap OpV.cells)

theorem SlO.form {v : Value} {os : List OpV} {w : World} (h : SlO v os w) : ∃ a cap, v = .slice a os.length cap ∧ os.length ≤ cap ∧ ∀ x, a = some x → x.spot = none := by
  rcases h with ⟨⟨a, rfl, ha⟩, rfl⟩ | ⟨b, o, cap, rfl, h1, _⟩
  · exact ⟨a, 0, rfl, Nat.le_refl _, ha⟩
  · exact ⟨_, cap, rfl, h1, by rintro _ ⟨⟩; rfl⟩
theorem SlO.take {a : Option Addr} {m cap : Nat} {os : List OpV} {w : World} (h : SlO (.slice a m cap) os w) (k : Nat) : SlO (.slice a (os.take k).length cap) (os.take k) w := by
  rcases h with ⟨⟨a, h, ha⟩, rfl⟩ | ⟨b, o, cap', h, h1, h2⟩
  · cases h; exact .inl ⟨⟨a, by simp, ha⟩, by simp⟩
  · cases h
    refine .inr ⟨b, o, cap, rfl, by rw [List.length_take]; omega, ?_⟩
    have h3 := h2.take (((os.take k).flatMap OpV.cells).length)
    have h4 : (os.flatMap OpV.cells).take ((os.take k).flatMap OpV.cells).length = (os.take k).flatMap OpV.cells := by
      conv => lhs; rw [← List.take_append_drop k os, List.flatMap_append]
      rw [List.take_append_of_le_length (by simp), List.take_of_length_le (by simp)]
    rwa [h4] at h3
theorem SlO.nn {a : Option Addr} {m cap : Nat} {os : List OpV} {w : World} (h : SlO (.slice a m cap) os w) (hn : 0 < os.length) : ∃ b o, a = some ⟨b, o, none⟩ := by
  rcases h with ⟨_, rfl⟩ | ⟨b, o, cap', h, _⟩
  · simp at hn
  · cases h; exact ⟨b, o, rfl⟩
theorem SlO.at {b o m cap : Nat} {os : List OpV} {w : World} (h : SlO (.slice (some ⟨b, o, none⟩) m cap) os w) {k : Nat} {x : OpV} (hx : os[k]? = some x) : Rd w ⟨b, o + k * 4, none⟩ x.cells := by
  rcases h with ⟨_, rfl⟩ | ⟨b', o', cap', h, _, hR⟩
  · simp at hx
  · cases h
    have hk : k < os.length := by
      rcases Nat.lt_or_ge k os.length with h | h
      · exact h
      · rw [List.getElem?_eq_none h] at hx; cases hx
    have h1 := (hR.drop (k * 4)).take 4
    have h2 := flat_chunk (f := OpV.cells) (z := 4) (cur := []) x (fun _ _ => rfl) hk
    rw [List.append_nil] at h2
    rw [h2] at h1
    have h3 : os.getD k x = x := by rw [List.getD_eq_getElem?_getD, hx]; rfl
    rwa [h3] at h1

/-- What is known of a call. -/
structure OpV.Ok (L : List Assn) (o : OpV) : Prop where
  b : Knows L (SlB o.b o.bl)
  keep : Knows L (SlV o.keep (bools o.kl))
  bl0 : o.bl.length ≤ 140737488351232
  kl : o.kl.length ≤ 140737488355328
  i : -9223372036854775808 ≤ o.i ∧ o.i ≤ 9223372036854775807
theorem OpV.Ok.bl {L : List Assn} {o : OpV} (h : o.Ok L) : o.bl.length ≤ 140737488355328 := by have := h.bl0; omega
theorem OpV.ones {L : List Assn} {o : OpV} {g : Gh} {w : World} (h : o.Ok L) (hw : Sat g L w) : Ones o.cells := by
  obtain ⟨a, c, hb⟩ := (h.b.at hw).form
  obtain ⟨a', c', hk⟩ := (h.keep.at hw).form
  intro u hu
  simp only [OpV.cells, hb, hk, List.mem_cons, List.not_mem_nil, or_false] at hu
  rcases hu with rfl | rfl | rfl | rfl <;> rfl
structure Script (L : List Assn) (v : Value) (os : List OpV) : Prop where
  sl : Knows L (SlO v os)
  len : os.length ≤ 140737488355328
  ok : ∀ o ∈ os, o.Ok L

/-! ### The alarm: what holds between two calls -/
def AlarmInv (acts : Int) (D : Dk) (dn : Nat) : Prop :=
  D.wrote + D.synced = dn ∧ (acts < 0 → D.on = true ∧ D.alarm < 0) ∧ (0 ≤ acts → (D.on = true ∧ D.alarm = acts - dn ∧ (dn : Int) ≤ acts) ∨ (D.on = false ∧ (dn : Int) = acts))
def Stepped (acts : Int) (D : Dk) (dn : Nat) (er : Int) : Prop :=
  (er = 0 ∧ AlarmInv acts D (dn + 1) ∧ D.on = true) ∨ (er = 17 ∧ AlarmInv acts D dn ∧ D.on = false) ∨ ((er = 16 ∨ er = 1) ∧ AlarmInv acts D dn ∧ D.on = true)

theorem stepped_sync {acts : Int} {D : Dk} {dn : Nat} (h : AlarmInv acts D dn) : Stepped acts D.sync.2 dn D.sync.1 := by
  obtain ⟨h1, h2, h3⟩ := h
  unfold Dk.sync
  by_cases ho : D.on = false
  · rw [if_pos ho]; exact .inr (.inl ⟨rfl, ⟨h1, h2, h3⟩, ho⟩)
  · have ho' : D.on = true := by simpa using ho
    rw [if_neg ho]
    by_cases ha : D.alarm = 0
    · rw [if_pos ha]
      refine .inr (.inl ⟨rfl, ⟨h1, fun h => by have := (h2 h).2; omega, fun h => .inr ⟨rfl, ?_⟩⟩, rfl⟩)
      rcases h3 h with h | h <;> simp_all; omega
    · rw [if_neg ha]
      refine .inl ⟨rfl, ⟨?_, fun h => ⟨ho', ?_⟩, fun h => .inl ⟨ho', ?_⟩⟩, ho'⟩
      · simp only [Dk.settled, Dk.tick]; omega
      · have := (h2 h).2; simp only [Dk.settled, Dk.tick]; split <;> omega
      · rcases h3 h with h | h
        · simp only [Dk.settled, Dk.tick]; split <;> omega
        · simp_all

theorem stepped_write {acts : Int} {D : Dk} {dn : Nat} {i : Int} {l : Bys} (h : AlarmInv acts D dn) : Stepped acts (D.write i l).2 dn (D.write i l).1 := by
  have h' := h
  obtain ⟨h1, h2, h3⟩ := h
  unfold Dk.write
  by_cases ho : D.on = false
  · rw [if_pos ho]; exact .inr (.inl ⟨rfl, h', ho⟩)
  · have ho' : D.on = true := by simpa using ho
    rw [if_neg ho]
    by_cases hi : ¬ (0 ≤ i ∧ i < D.lasts.length)
    · rw [if_pos hi]; exact .inr (.inr ⟨.inl rfl, h', ho'⟩)
    · rw [if_neg hi]
      by_cases hl : l.length ≠ 512
      · rw [if_pos hl]; exact .inr (.inr ⟨.inr rfl, h', ho'⟩)
      · rw [if_neg hl]
        by_cases ha : D.alarm = 0
        · rw [if_pos ha]
          refine .inr (.inl ⟨rfl, ⟨h1, fun h => by have := (h2 h).2; omega, fun h => .inr ⟨rfl, ?_⟩⟩, rfl⟩)
          rcases h3 h with h | h <;> simp_all; omega
        · rw [if_neg ha]
          refine .inl ⟨rfl, ⟨?_, fun h => ⟨ho', ?_⟩, fun h => .inl ⟨ho', ?_⟩⟩, ho'⟩
          · simp only [Dk.wr]; omega
          · have := (h2 h).2; simp only [Dk.wr, Dk.tick]; split <;> omega
          · rcases h3 h with h | h
            · simp only [Dk.wr, Dk.tick]; split <;> omega
            · simp_all

/-- A disk as it is begun. -/
theorem startD_fresh {n : Int} {l : Bys} {D : Dk} (h : startD n l = some D) : D.ws = [] ∧ D.on = true ∧ D.alarm = -1 ∧ D.wrote = 0 ∧ D.synced = 0 := by
  unfold startD at h
  split at h
  · split at h
    · cases h; exact ⟨rfl, rfl, rfl, rfl, rfl⟩
    · cases h
  · split at h
    · cases h; exact ⟨rfl, rfl, rfl, rfl, rfl⟩
    · cases h

theorem alarm_begins {n : Int} {l : Bys} {D : Dk} (h : startD n l = some D) (acts : Int) : AlarmInv acts (D.arm acts) 0 := by
  obtain ⟨_, h1, h2, h3, h4⟩ := startD_fresh h
  unfold Dk.arm AlarmInv
  rw [if_pos h1]
  refine ⟨by simp only; omega, fun h => ⟨h1, by simp only; omega⟩, fun h => .inl ⟨h1, by simp only; omega, by simpa using h⟩⟩

section
variable {G : Gh} {L R : List Assn} {w : World} {p : Nat} {D : Dk}

theorem ct_law06_DiskAlarm {n acts : Int} {sv v : Value} {l : Bys} {os : List OpV} (hw : Sat G L w) (ka : Knows L (SlB sv l)) (hll : l.length ≤ 140737488355328) (ko : Script L v os) (hac : acts ≤ 9223372036854775807) :
    Calls Try.prog 9 #[.agg #[.int .i64 n, sv], .int .i64 acts, v] w (Ret fun r w' => r = .bool true ∧ Sat G L w') := by
  obtain ⟨a, cap, rfl, hcap, hasp⟩ := (ko.sl.at hw).form
  refine calls_of_x (args := [_, _, _]) func_law06_DiskAlarm rfl nt_law06_DiskAlarm rfl ?_
  refine x_seq ?_
  refine x_region rfl ?_
  refine x_box rfl rfl trivial rfl rfl hw rfl (fun w b3 hw => ?_)  -- law.go:328 box[37] t0
  refine x_as rfl rfl trivial rfl ?_  -- law.go:328 assign False
  refine xl_nil ?_
  refine x_seq ?_
  refine x_region rfl ?_
  refine x_mv rfl rfl trivial rfl ?_  -- law.go:329 move t2
  refine x_mv rfl rfl trivial rfl ?_  -- law.go:329 move t2
  refine x_len rfl rfl trivial rfl U_sl_coppicelaw06_Op rfl ?_  -- law.go:329 len(t15)
  -- law.go:329 min(t16, 60)
  refine x_min2 rfl rfl trivial rfl rfl ?_
  -- law.go:329 slice[38] t14 [-:t17:-]
  refine x_cutH rfl rfl trivial U_sl_coppicelaw06_Op szs_coppicelaw06_Op rfl hasp rfl ⟨by omega, by omega⟩ ?_
  have hsl : Knows L (SlO (.slice a (os.take 60).length cap) (os.take 60)) := ko.sl.mono fun w h => h.take 60
  have hok : ∀ o ∈ os.take 60, o.Ok L := fun o h => ko.ok o (List.mem_of_mem_take h)
  have hlen : (os.take 60).length ≤ 60 := by simp; omega
  rw [show (min (os.length : Int) 60).toNat = (os.take 60).length by simp; omega]
  generalize os.take 60 = os' at hsl hok hlen ⊢
  refine x_as rfl rfl trivial rfl ?_  -- law.go:329 assign t18
  refine xl_nil ?_
  refine x_seq ?_
  refine x_seq ?_
  refine x_region rfl ?_
  refine x_call rfl rfl trivial cal_law06_works rfl (ct_law06_works hw) rfl (fun w v19 hv => ?_)  -- law.go:330 call f18 coppice/coppicelaw06.works()
  obtain ⟨rfl, hw⟩ := hv
  -- law.go:330 unOp "not" 4 19
  refine x_not rfl rfl trivial rfl ?_
  refine xl_nil ?_
  refine x_cond_false rfl ?_
  refine x_skip ?_
  refine x_seq ?_
  refine x_region rfl ?_
  refine x_ld rfl rfl trivial rfl (Loads.blkA many_coppicelaw06_Start hw (by repeat (first | with_reducible exact Pick.here | apply Pick.there)) (by simp)) ?_  -- law.go:333 load[37] t3
  refine x_call rfl rfl trivial cal_law06_started rfl (ct_law06_started (n := n) (l := l) hw (ka.of (by repeat (first | exact Suf.refl _ | apply Suf.cons))) hll) rfl (fun w v22 hv => ?_)  -- law.go:333 call f22 coppice/coppicelaw06.started(t21)
  obtain ⟨x, rfl, hx⟩ : ∃ x, v22 = .pointer x ∧ ((startD n l = none ∧ x = none ∧ Sat G L w) ∨ ∃ D q, startD n l = some D ∧ x = some ⟨q, 0, none⟩ ∧ Sat G (dsk q D :: L) w) := by
    obtain ⟨h1, rfl, hw⟩ | ⟨D, q, h1, rfl, hw⟩ := hv
    · exact ⟨_, rfl, .inl ⟨h1, rfl, hw.tail⟩⟩
    · exact ⟨_, rfl, .inr ⟨D, q, h1, rfl, hw.drop (.there .here)⟩⟩
  refine x_as rfl rfl trivial rfl ?_  -- law.go:333 assign t22
  refine xl_nil ?_
  refine x_seq ?_
  refine x_seq ?_
  refine x_region rfl ?_
  refine x_mv rfl rfl trivial rfl ?_  -- law.go:334 move t7
  refine x_eqnil rfl rfl trivial rfl U_p_disk_Disk rfl ?_  -- law.go:334 eql[25] t23 {'nilptr': 1}
  refine xl_nil ?_
  refine x_cond rfl (fun h2 => ?_) (fun h2 => ?_)
  · -- yes
    obtain ⟨-, -, hw⟩ | ⟨D, q, -, rfl, hw⟩ := hx
    case inr => cases h2
    refine x_seq ?_
    refine x_region rfl ?_
    refine x_as rfl rfl trivial rfl ?_  -- law.go:335 assign True
    refine xl_nil ?_
    refine x_ret ?_
    exact end1 rfl rfl ⟨rfl, hw⟩
  · -- no
    obtain ⟨-, rfl, hw⟩ | ⟨D, q, hD, rfl, hw⟩ := hx
    case inl => cases h2
    refine x_skip ?_
    refine x_seq ?_
    refine x_region rfl ?_
    refine x_mv rfl rfl trivial rfl ?_  -- law.go:337 move t7
    refine x_mv rfl rfl trivial rfl ?_  -- law.go:337 move t1
    refine x_call rfl rfl trivial cal_disk_Disk_Arm rfl (ct_disk_Disk_Arm hw hac) rfl (fun w v27 hv => ?_)  -- law.go:337 call f23 (*coppice/disk.Disk).Arm(t25, t26)
    obtain ⟨-, hw⟩ := hv
    have hinv := alarm_begins hD acts
    generalize D.arm acts = D at hw hinv
    refine xl_nil ?_
    refine x_seq ?_
    refine x_region rfl ?_
    refine x_as rfl rfl trivial rfl ?_  -- law.go:338 assign 0
    refine xl_nil ?_
    refine x_seq ?_
    refine x_seq ?_
    refine x_region rfl ?_
    refine x_as rfl rfl trivial rfl ?_  -- law.go:339 assign 0
    refine xl_nil ?_
    refine x_block ?_
    refine x_loop (fun m e w => ∃ (k : Nat) (D : Dk) (dn : Nat), k ≤ os'.length ∧ dn ≤ k ∧ m = os'.length - k ∧ e = [(1, .int .i64 acts), (2, .slice a os'.length cap), (7, .pointer (some ⟨q, 0, none⟩)), (8, .int .i64 dn), (9, .int .i64 k)] ∧ AlarmInv acts D dn ∧ Sat G (dsk q D :: L) w)
      (m := os'.length) (e₀ := [(1, .int .i64 acts), (2, .slice a os'.length cap), (7, .pointer (some ⟨q, 0, none⟩)), (8, .int .i64 (0 : Nat)), (9, .int .i64 (0 : Nat))]) (by repeat (first | exact Sub.nil _ | refine Sub.cons rfl ?_))
      ⟨0, _, 0, Nat.zero_le _, Nat.le_refl _, rfl, rfl, hinv, hw⟩ ?_
    rintro m e w ⟨k, D, dn, hk, hdn, rfl, rfl, hinv, hw⟩
    refine x_seq ?_
    refine x_seq ?_
    refine x_region rfl ?_
    refine x_mv rfl rfl trivial rfl ?_  -- law.go:339 move t9
    refine x_mv rfl rfl trivial rfl ?_  -- law.go:339 move t2
    refine x_len rfl rfl trivial rfl U_sl_coppicelaw06_Op rfl ?_  -- law.go:339 len(t29)
    refine x_lt rfl rfl trivial rfl rfl ?_  -- law.go:339 lss[3] t28 t30
    refine xl_nil ?_
    refine x_if rfl (fun h3 => ?_) (fun h3 => ?_)
    · -- yes
      have hk' : k < os'.length := by omega
      obtain ⟨o, ho⟩ : ∃ o, os'[k]? = some o := ⟨_, List.getElem?_eq_getElem hk'⟩
      have hoo := hok o (List.mem_of_getElem? ho)
      have hob := hoo.b
      have hoz : Knows L (fun _ => Ones o.cells) := fun g w h => OpV.ones hoo h
      obtain ⟨b, f, rfl⟩ := ((hsl.of (by repeat (first | exact Suf.refl _ | apply Suf.cons))).at hw).nn (by omega)
      refine x_skip ?_
      refine x_seq ?_
      refine x_block ?_
      refine x_seq ?_
      refine x_region rfl ?_
      refine x_mv rfl rfl trivial rfl ?_  -- law.go:340 move t2
      refine x_mv rfl rfl trivial rfl ?_  -- law.go:340 move t9
      refine x_idx rfl rfl trivial U_sl_coppicelaw06_Op sz_coppicelaw06_Op rfl rfl ⟨by omega, by omega⟩ ?_  -- law.go:340 indexAddr[38] t34 [t35] 
      refine x_ld rfl rfl trivial rfl (Loads.many many_coppicelaw06_Op rfl (((hsl.of (by repeat (first | exact Suf.refl _ | apply Suf.cons))).at hw).at ho)) ?_  -- law.go:340 load[43] t36
      refine x_alloc rfl rfl trivial z_coppicelaw06_Op hw rfl (fun w b10 hw => ?_)  -- law.go:340 alloc 43
      -- law.go:340 store[43] t10 := t37
      refine x_stN (cs := o.cells) (l' := o.cells) rfl trivial rfl rfl many_coppicelaw06_Op rfl (((hoz.of (by repeat (first | exact Suf.refl _ | apply Suf.cons))).at hw)) hw (by repeat (first | with_reducible exact Pick.here | apply Pick.there)) (by simp) rfl rfl (fun w hw => ?_)
      simp only [OpV.cells] at hw
      refine xl_nil ?_
      refine x_join (fun e w => (o.kind = 1 ∨ o.kind = 2) ∧ e = [(1, .int .i64 acts), (2, .slice (some ⟨b, f, none⟩) os'.length cap), (7, .pointer (some ⟨q, 0, none⟩)), (8, .int .i64 dn), (9, .int .i64 k), (10, .pointer (some ⟨b10, 0, none⟩))] ∧ Sat G (blk b10 o.cells 43 :: dsk q D :: L) w) ?_ ?_
      · -- as far as J14
        refine x_seq ?_
        refine x_region rfl ?_
        refine x_fld rfl rfl trivial fo_coppicelaw06_Op_0 rfl ?_  -- law.go:341 fieldAddr[43] t10 .Kind(+0)
        refine x_ld rfl rfl trivial rfl (Loads.blk1 one_int hw (by repeat (first | with_reducible exact Pick.here | apply Pick.there)) rfl) ?_  -- law.go:341 load[3] t38
        refine x_ne rfl rfl trivial rfl rfl rfl ?_  -- law.go:341 neq[3] t39 1
        refine x_mv rfl rfl trivial rfl ?_  -- law.go:341 move t40
        refine xl_split (d := 41) rfl (fun h4 => ?_) (fun h4 => ?_)
        · -- yes
          refine x_fld rfl rfl ⟨_, rfl, rfl⟩ fo_coppicelaw06_Op_0 rfl ?_  -- law.go:341 fieldAddr[43] t10 .Kind(+0)
          refine x_ld rfl rfl ⟨_, rfl, rfl⟩ rfl (Loads.blk1 one_int hw (by repeat (first | with_reducible exact Pick.here | apply Pick.there)) rfl) ?_  -- law.go:341 load[3] t42
          refine x_ne rfl rfl ⟨_, rfl, rfl⟩ rfl rfl rfl ?_  -- law.go:341 neq[3] t43 2
          refine x_pickT rfl rfl trivial rfl rfl rfl ?_  -- law.go:341 pick t41 ? t44 : False
          refine xl_nil ?_
          refine x_if rfl (fun h5 => ?_) (fun h5 => ?_)
          · -- yes
            refine x_exit rfl ?_  -- exit 1
            refine x_region rfl ?_
            refine x_mv rfl rfl trivial rfl ?_  -- law.go:339 move t9
            refine x_addi rfl rfl trivial rfl rfl (by omega) ?_  -- law.go:339 add[3] t32 1
            refine x_as rfl rfl trivial rfl ?_  -- law.go:339 assign t33
            refine xl_nil ?_
            exact ⟨os'.length - (k + 1), by omega, [(1, _), (2, _), (7, _), (8, _), (9, .int .i64 (k + 1 : Nat))], (by repeat (first | exact Sub.nil _ | refine Sub.cons rfl ?_)), k + 1, D, dn, by omega, by omega, rfl, rfl, hinv, hw.tail⟩
          · -- no
            refine x_skip ?_
            exact ⟨[(1, _), (2, _), (7, _), (8, _), (9, _), (10, _)], (by repeat (first | exact Sub.nil _ | refine Sub.cons rfl ?_)), by omega, rfl, hw⟩
        · -- no
          refine xl_no rfl rfl rfl rfl rfl rfl ?_  -- passed over: fieldAddr[43] t10 .Kind(+0)
          refine xl_no rfl rfl rfl rfl rfl rfl ?_  -- passed over: load[3] t42
          refine xl_no rfl rfl rfl rfl rfl rfl ?_  -- passed over: neq[3] t43 2
          refine x_pickF rfl rfl trivial rfl rfl rfl ?_  -- law.go:341 pick t41 ? t44 : False
          refine xl_nil ?_
          refine x_cond_false rfl ?_
          refine x_skip ?_
          exact ⟨[(1, _), (2, _), (7, _), (8, _), (9, _), (10, _)], (by repeat (first | exact Sub.nil _ | refine Sub.cons rfl ?_)), by omega, rfl, hw⟩
      · -- from J14
        clear hw
        rintro e w ⟨hkd, rfl, hw⟩
        simp only [OpV.cells] at hw
        refine x_seq ?_
        refine x_region rfl ?_
        refine x_as rfl rfl trivial rfl ?_  -- law.go:344 assign 0
        refine xl_nil ?_
        refine x_join (fun e w => ∃ (D' : Dk) (er : Int), e = [(1, .int .i64 acts), (2, .slice (some ⟨b, f, none⟩) os'.length cap), (7, .pointer (some ⟨q, 0, none⟩)), (8, .int .i64 dn), (9, .int .i64 k), (11, .int .i64 er)] ∧ Stepped acts D' dn er ∧ Sat G (dsk q D' :: L) w) ?_ ?_
        · -- as far as J18
          refine x_seq ?_
          refine x_region rfl ?_
          refine x_fld rfl rfl trivial fo_coppicelaw06_Op_0 rfl ?_  -- law.go:345 fieldAddr[43] t10 .Kind(+0)
          refine x_ld rfl rfl trivial rfl (Loads.blk1 one_int hw (by repeat (first | with_reducible exact Pick.here | apply Pick.there)) rfl) ?_  -- law.go:345 load[3] t46
          refine x_eq rfl rfl trivial rfl rfl rfl ?_  -- law.go:345 eql[3] t47 2
          refine xl_nil ?_
          refine x_if rfl (fun h6 => ?_) (fun h6 => ?_)
          · -- yes
            refine x_region rfl ?_
            refine x_mv rfl rfl trivial rfl ?_  -- law.go:346 move t7
            refine x_call rfl rfl trivial cal_disk_Disk_Sync rfl (ct_disk_Disk_Sync (D := D) (hw.pick (A := dsk q D) (by repeat (first | with_reducible exact Pick.here | apply Pick.there))) (by have := hinv.1; omega) (by have := hinv.1; omega)) rfl (fun w v50 hv => ?_)  -- law.go:346 call f24 (*coppice/disk.Disk).Sync(t49)
            obtain ⟨rfl, hw⟩ := hv
            have hst := stepped_sync hinv
            refine x_as rfl rfl trivial rfl ?_  -- law.go:346 assign t50
            refine xl_nil ?_
            exact ⟨[(1, _), (2, _), (7, _), (8, _), (9, _), (11, _)], (by repeat (first | exact Sub.nil _ | refine Sub.cons rfl ?_)), _, _, rfl, hst, hw.drop (.there .here)⟩
          · -- no
            refine x_draw [0, 1, 2, 3, 4, 5, 6, 7] mixed (by kernel_rfl) ?_  -- region 17
            replace hw := hw.drawn (w.drawn + 1)
            refine x_mv rfl rfl trivial rfl ?_  -- law.go:348 move t7
            refine x_fld rfl rfl trivial fo_coppicelaw06_Op_1 rfl ?_  -- law.go:348 fieldAddr[43] t10 .I(+1)
            refine x_ld rfl rfl trivial rfl (Loads.blk1 one_int hw (by repeat (first | with_reducible exact Pick.here | apply Pick.there)) rfl) ?_  -- law.go:348 load[3] t52
            refine x_fld rfl rfl trivial fo_coppicelaw06_Op_2 rfl ?_  -- law.go:348 fieldAddr[43] t10 .B(+2)
            refine x_ld rfl rfl trivial rfl (Loads.blk1 one_sl_uint8 hw (by repeat (first | with_reducible exact Pick.here | apply Pick.there)) rfl) ?_  -- law.go:348 load[23] t54
            -- law.go:348 call f15 coppice/coppiceref00.CopyBytes(t55)
            refine x_callP rfl rfl trivial cal_ref00_CopyBytes rfl (ct_ref00_CopyBytes (l := o.bl) hw (hob.of (by repeat (first | exact Suf.refl _ | apply Suf.cons))) hoo.bl) (fun w v hw q' hq => ?_) (fun w v56 hw => ?_)
            · obtain rfl := pend_one (q0 := 2) (by kernel_rfl) hq
              exact chk_ld rfl rfl rfl (Loads.blk1 one_int hw (by repeat (first | with_reducible exact Pick.here | apply Pick.there)) rfl)
            refine x_call rfl rfl trivial cal_disk_Disk_Write rfl (ct_disk_Disk_Write (D := D) (v := v56) (l := o.bl) (hw.pick (A := dsk q D) (by repeat (first | with_reducible exact Pick.here | apply Pick.there))) (rowB rfl (by repeat (first | with_reducible exact Pick.here | apply Pick.there))) hoo.bl (by have := hinv.1; omega)) (by kernel_rfl) (fun w v57 hv => ?_)  -- law.go:348 call f25 (*coppice/disk.Disk).Write(t51, t53, t56)
            obtain ⟨rfl, hw⟩ := hv
            have hst := stepped_write (i := o.i) (l := o.bl) hinv
            refine x_as rfl rfl trivial rfl ?_  -- law.go:348 assign t57
            refine xl_nil ?_
            exact ⟨[(1, _), (2, _), (7, _), (8, _), (9, _), (11, _)], (by repeat (first | exact Sub.nil _ | refine Sub.cons rfl ?_)), _, _, rfl, hst, (hw.drop (.there .here)).drop (.there .here)⟩
        · -- from J18
          clear hw
          rintro e w ⟨D', er, rfl, hst, hw⟩
          refine x_join (fun e w => ∃ dn' : Nat, e = [(1, .int .i64 acts), (2, .slice (some ⟨b, f, none⟩) os'.length cap), (7, .pointer (some ⟨q, 0, none⟩)), (8, .int .i64 dn'), (9, .int .i64 k), (11, .int .i64 er)] ∧ AlarmInv acts D' dn' ∧ dn' ≤ k + 1 ∧ ((er = 17 ∧ D'.on = false) ∨ (er ≠ 17 ∧ D'.on = true)) ∧ Sat G (dsk q D' :: L) w) ?_ ?_
          · -- as far as J20
            refine x_seq ?_
            refine x_region rfl ?_
            refine x_mv rfl rfl trivial rfl ?_  -- law.go:350 move t11
            refine x_eq rfl rfl trivial rfl rfl rfl ?_  -- law.go:350 eql[26] t58 0
            refine xl_nil ?_
            refine x_if rfl (fun h7 => ?_) (fun h7 => ?_)
            · -- yes
              refine x_region rfl ?_
              refine x_mv rfl rfl trivial rfl ?_  -- law.go:351 move t8
              refine x_addi rfl rfl trivial rfl rfl (by omega) ?_  -- law.go:351 add[3] t60 1
              refine x_as rfl rfl trivial rfl ?_  -- law.go:351 assign t61
              refine xl_nil ?_
              have hs : AlarmInv acts D' (dn + 1) ∧ D'.on = true := by
                rcases hst with ⟨_, a, b⟩ | ⟨c, _, _⟩ | ⟨c, _, _⟩
                · exact ⟨a, b⟩
                · omega
                · omega
              exact ⟨[(1, _), (2, _), (7, _), (8, .int .i64 (dn + 1 : Nat)), (9, _), (11, _)], (by repeat (first | exact Sub.nil _ | refine Sub.cons rfl ?_)), dn + 1, rfl, hs.1, by omega, .inr ⟨by omega, hs.2⟩, hw⟩
            · -- no
              refine x_skip ?_
              have hs : AlarmInv acts D' dn ∧ ((er = 17 ∧ D'.on = false) ∨ (er ≠ 17 ∧ D'.on = true)) := by
                rcases hst with ⟨c, _, _⟩ | ⟨c, a, b⟩ | ⟨c, a, b⟩
                · omega
                · exact ⟨a, .inl ⟨c, b⟩⟩
                · exact ⟨a, .inr ⟨by omega, b⟩⟩
              exact ⟨[(1, _), (2, _), (7, _), (8, _), (9, _), (11, _)], (by repeat (first | exact Sub.nil _ | refine Sub.cons rfl ?_)), dn, rfl, hs.1, by omega, hs.2, hw⟩
          · -- from J20
            clear hw
            rintro e w ⟨dn', rfl, hinv', hdn', hsw, hw⟩
            have hsum := hinv'.1
            have hneg := hinv'.2.1
            have hpos := hinv'.2.2
            have hofd : D'.on = false → (dn' : Int) = acts := fun h => by
              by_cases hc : acts < 0
              · have h2 := (hneg hc).1; rw [h] at h2; cases h2
              · rcases hpos (by omega) with ⟨h2, _⟩ | ⟨_, h2⟩
                · rw [h] at h2; cases h2
                · exact h2
            refine x_seq ?_
            refine x_region rfl ?_
            refine x_mv rfl rfl trivial rfl ?_  -- law.go:353 move t7
            refine x_call rfl rfl trivial cal_disk_Disk_Acts rfl (ct_disk_Disk_Acts hw) rfl (fun w v64 hv => ?_)  -- law.go:353 call f26 (*coppice/disk.Disk).Acts(t63)
            obtain ⟨rfl, hw⟩ := hv
            refine x_mv rfl rfl trivial rfl ?_  -- law.go:353 move t64
            refine x_ext rfl rfl trivial rfl rfl ?_  -- law.go:353 extract t62 .0
            refine x_ext rfl rfl trivial rfl rfl ?_  -- law.go:353 extract t62 .1
            refine x_as rfl rfl trivial rfl ?_  -- law.go:353 assign t65
            refine x_as rfl rfl trivial rfl ?_  -- law.go:353 assign t66
            refine xl_nil ?_
            refine x_join (fun e w => e = [(1, .int .i64 acts), (2, .slice (some ⟨b, f, none⟩) os'.length cap), (7, .pointer (some ⟨q, 0, none⟩)), (8, .int .i64 dn'), (9, .int .i64 k), (11, .int .i64 er)] ∧ Sat G (dsk q D' :: L) w) ?_ ?_
            · -- as far as J23
              refine x_seq ?_
              refine x_region rfl ?_
              refine x_mv rfl rfl trivial rfl ?_  -- law.go:354 move t12
              refine x_mv rfl rfl trivial rfl ?_  -- law.go:354 move t13
              refine x_addi rfl rfl trivial rfl rfl (by omega) ?_  -- law.go:354 add[3] t67 t68
              refine x_mv rfl rfl trivial rfl ?_  -- law.go:354 move t8
              refine x_ne rfl rfl trivial rfl rfl rfl ?_  -- law.go:354 neq[3] t69 t70
              refine x_mv rfl rfl trivial rfl ?_  -- law.go:354 move t71
              refine xl_split (d := 72) rfl (fun h8 => ?_) (fun h8 => ?_)
              · -- yes
                omega
              · -- no
                refine x_mv rfl rfl ⟨_, rfl, rfl⟩ rfl ?_  -- law.go:354 move t1
                refine x_ge rfl rfl ⟨_, rfl, rfl⟩ rfl rfl ?_  -- law.go:354 geq[3] t73 0
                refine x_mv rfl rfl ⟨_, rfl, rfl⟩ rfl ?_  -- law.go:354 move t74
                refine xl_split (d := 75) rfl (fun h9 => ?_) (fun h9 => ?_)
                · -- yes
                  refine x_mv rfl rfl ⟨_, rfl, rfl⟩ rfl ?_  -- law.go:354 move t8
                  refine x_mv rfl rfl ⟨_, rfl, rfl⟩ rfl ?_  -- law.go:354 move t1
                  refine x_gt rfl rfl ⟨_, rfl, rfl⟩ rfl rfl ?_  -- law.go:354 gtr[3] t76 t77
                  refine x_pickT rfl rfl ⟨_, rfl, rfl⟩ rfl rfl rfl ?_  -- law.go:354 pick t75 ? t78 : False
                  refine x_pickF rfl rfl trivial rfl rfl rfl ?_  -- law.go:354 pick t72 ? True : t79
                  refine x_mv rfl rfl trivial rfl ?_  -- law.go:354 move t80
                  refine xl_split (d := 81) rfl (fun h10 => ?_) (fun h10 => ?_)
                  · -- yes
                    (rcases hpos h9 with h | h <;> omega)
                  · -- no
                    refine x_mv rfl rfl ⟨_, rfl, rfl⟩ rfl ?_  -- law.go:354 move t1
                    refine x_lt rfl rfl ⟨_, rfl, rfl⟩ rfl rfl ?_  -- law.go:354 lss[3] t82 0
                    refine x_mv rfl rfl ⟨_, rfl, rfl⟩ rfl ?_  -- law.go:354 move t83
                    refine xl_split (d := 84) rfl (fun h11 => ?_) (fun h11 => ?_)
                    · -- yes
                      omega
                    · -- no
                      refine xl_no rfl rfl rfl rfl rfl rfl ?_  -- passed over: move t7
                      refine xl_no rfl rfl rfl rfl rfl rfl ?_  -- passed over: call f27 (*coppice/disk.Disk).IsOn(t85)
                      refine xl_no rfl rfl rfl rfl rfl rfl ?_  -- passed over: unOp "not" 4 86
                      refine x_pickF rfl rfl ⟨_, rfl, rfl⟩ rfl rfl rfl ?_  -- law.go:354 pick t84 ? t87 : False
                      refine x_pickF rfl rfl trivial rfl rfl rfl ?_  -- law.go:354 pick t81 ? True : t88
                      refine xl_nil ?_
                      refine x_cond_false rfl ?_
                      refine x_skip ?_
                      exact ⟨[(1, _), (2, _), (7, _), (8, _), (9, _), (11, _)], (by repeat (first | exact Sub.nil _ | refine Sub.cons rfl ?_)), rfl, hw⟩
                · -- no
                  refine xl_no rfl rfl rfl rfl rfl rfl ?_  -- passed over: move t8
                  refine xl_no rfl rfl rfl rfl rfl rfl ?_  -- passed over: move t1
                  refine xl_no rfl rfl rfl rfl rfl rfl ?_  -- passed over: gtr[3] t76 t77
                  refine x_pickF rfl rfl ⟨_, rfl, rfl⟩ rfl rfl rfl ?_  -- law.go:354 pick t75 ? t78 : False
                  refine x_pickF rfl rfl trivial rfl rfl rfl ?_  -- law.go:354 pick t72 ? True : t79
                  refine x_mv rfl rfl trivial rfl ?_  -- law.go:354 move t80
                  refine x_mv rfl rfl ⟨_, rfl, rfl⟩ rfl ?_  -- law.go:354 move t1
                  refine x_lt rfl rfl ⟨_, rfl, rfl⟩ rfl rfl ?_  -- law.go:354 lss[3] t82 0
                  refine x_mv rfl rfl ⟨_, rfl, rfl⟩ rfl ?_  -- law.go:354 move t83
                  refine xl_split (d := 84) rfl (fun h13 => ?_) (fun h13 => ?_)
                  · -- yes
                    refine x_mv rfl rfl ⟨_, rfl, rfl⟩ rfl ?_  -- law.go:354 move t7
                    refine x_call rfl rfl ⟨_, rfl, rfl⟩ cal_disk_Disk_IsOn rfl (ct_disk_Disk_IsOn hw) rfl (fun w v86 hv => ?_)  -- law.go:354 call f27 (*coppice/disk.Disk).IsOn(t85)
                    obtain ⟨rfl, hw⟩ := hv
                    rw [(hneg h13).1]
                    -- law.go:354 unOp "not" 4 86
                    refine x_not rfl rfl ⟨_, rfl, rfl⟩ rfl ?_
                    refine x_pickT rfl rfl ⟨_, rfl, rfl⟩ rfl rfl rfl ?_  -- law.go:354 pick t84 ? t87 : False
                    refine x_pickF rfl rfl trivial rfl rfl rfl ?_  -- law.go:354 pick t81 ? True : t88
                    refine xl_nil ?_
                    refine x_cond_false rfl ?_
                    refine x_skip ?_
                    exact ⟨[(1, _), (2, _), (7, _), (8, _), (9, _), (11, _)], (by repeat (first | exact Sub.nil _ | refine Sub.cons rfl ?_)), rfl, hw⟩
                  · -- no
                    refine xl_no rfl rfl rfl rfl rfl rfl ?_  -- passed over: move t7
                    refine xl_no rfl rfl rfl rfl rfl rfl ?_  -- passed over: call f27 (*coppice/disk.Disk).IsOn(t85)
                    refine xl_no rfl rfl rfl rfl rfl rfl ?_  -- passed over: unOp "not" 4 86
                    refine x_pickF rfl rfl ⟨_, rfl, rfl⟩ rfl rfl rfl ?_  -- law.go:354 pick t84 ? t87 : False
                    refine x_pickF rfl rfl trivial rfl rfl rfl ?_  -- law.go:354 pick t81 ? True : t88
                    refine xl_nil ?_
                    refine x_cond_false rfl ?_
                    refine x_skip ?_
                    exact ⟨[(1, _), (2, _), (7, _), (8, _), (9, _), (11, _)], (by repeat (first | exact Sub.nil _ | refine Sub.cons rfl ?_)), rfl, hw⟩
            · -- from J23
              clear hw
              rintro e w ⟨rfl, hw⟩
              refine x_seq ?_
              refine x_seq ?_
              refine x_region rfl ?_
              refine x_mv rfl rfl trivial rfl ?_  -- law.go:357 move t11
              refine x_eq rfl rfl trivial rfl rfl rfl ?_  -- law.go:357 eql[26] t90 17
              refine x_mv rfl rfl trivial rfl ?_  -- law.go:357 move t91
              refine xl_split (d := 92) rfl (fun h15 => ?_) (fun h15 => ?_)
              · -- yes
                have hoff : D'.on = false := by
                  rcases hsw with ⟨_, h⟩ | ⟨h, _⟩
                  · exact h
                  · exact absurd h15 h
                refine x_mv rfl rfl ⟨_, rfl, rfl⟩ rfl ?_  -- law.go:357 move t7
                refine x_call rfl rfl ⟨_, rfl, rfl⟩ cal_disk_Disk_IsOn rfl (ct_disk_Disk_IsOn hw) rfl (fun w v94 hv => ?_)  -- law.go:357 call f27 (*coppice/disk.Disk).IsOn(t93)
                obtain ⟨rfl, hw⟩ := hv
                rw [hoff]
                refine x_mv rfl rfl ⟨_, rfl, rfl⟩ rfl ?_  -- law.go:357 move t94
                refine x_mv rfl rfl ⟨_, rfl, rfl⟩ rfl ?_  -- law.go:357 move t8
                refine x_mv rfl rfl ⟨_, rfl, rfl⟩ rfl ?_  -- law.go:357 move t1
                refine x_ne rfl rfl ⟨_, rfl, rfl⟩ rfl rfl rfl ?_  -- law.go:357 neq[3] t96 t97
                refine x_pickF rfl rfl ⟨_, rfl, rfl⟩ rfl rfl rfl ?_  -- law.go:357 pick t95 ? True : t98
                refine x_pickT rfl rfl trivial rfl rfl rfl ?_  -- law.go:357 pick t92 ? t99 : False
                refine xl_nil ?_
                refine x_if rfl (fun h17 => ?_) (fun h17 => ?_)
                · -- yes
                  exact absurd (hofd hoff) h17
                · -- no
                  refine x_skip ?_
                  refine x_seq ?_
                  refine x_region rfl ?_
                  refine x_mv rfl rfl trivial rfl ?_  -- law.go:360 move t7
                  refine x_call rfl rfl trivial cal_disk_Disk_IsOn rfl (ct_disk_Disk_IsOn hw) rfl (fun w v102 hv => ?_)  -- law.go:360 call f27 (*coppice/disk.Disk).IsOn(t101)
                  obtain ⟨rfl, hw⟩ := hv
                  rw [hoff]
                  -- law.go:360 unOp "not" 4 102
                  refine x_not rfl rfl trivial rfl ?_
                  refine x_mv rfl rfl trivial rfl ?_  -- law.go:360 move t103
                  refine x_mv rfl rfl ⟨_, rfl, rfl⟩ rfl ?_  -- law.go:360 move t11
                  refine x_ne rfl rfl ⟨_, rfl, rfl⟩ rfl rfl rfl ?_  -- law.go:360 neq[26] t105 17
                  refine x_pickT rfl rfl trivial rfl rfl rfl ?_  -- law.go:360 pick t104 ? t106 : False
                  refine xl_nil ?_
                  refine x_if rfl (fun h19 => ?_) (fun h19 => ?_)
                  · -- yes
                    exact absurd h15 h19
                  · -- no
                    refine x_skip ?_
                    refine x_region rfl ?_
                    refine x_mv rfl rfl trivial rfl ?_  -- law.go:339 move t9
                    refine x_addi rfl rfl trivial rfl rfl (by omega) ?_  -- law.go:339 add[3] t32 1
                    refine x_as rfl rfl trivial rfl ?_  -- law.go:339 assign t33
                    refine xl_nil ?_
                    exact ⟨os'.length - (k + 1), by omega, [(1, _), (2, _), (7, _), (8, _), (9, .int .i64 (k + 1 : Nat))], (by repeat (first | exact Sub.nil _ | refine Sub.cons rfl ?_)), k + 1, D', dn', by omega, by omega, rfl, rfl, hinv', hw⟩
              · -- no
                have hon : D'.on = true := by
                  rcases hsw with ⟨h, _⟩ | ⟨_, h⟩
                  · exact absurd h h15
                  · exact h
                refine xl_no rfl rfl rfl rfl rfl rfl ?_  -- passed over: move t7
                refine xl_no rfl rfl rfl rfl rfl rfl ?_  -- passed over: call f27 (*coppice/disk.Disk).IsOn(t93)
                refine xl_no rfl rfl rfl rfl rfl rfl ?_  -- passed over: move t94
                refine xl_none rfl rfl rfl rfl rfl ?_  -- passed over: move t8
                refine xl_none rfl rfl rfl rfl rfl ?_  -- passed over: move t1
                refine xl_none rfl rfl rfl rfl rfl ?_  -- passed over: neq[3] t96 t97
                refine xl_no rfl rfl rfl rfl rfl rfl ?_  -- passed over: pick t95 ? True : t98
                refine x_pickF rfl rfl trivial rfl rfl rfl ?_  -- law.go:357 pick t92 ? t99 : False
                refine xl_nil ?_
                refine x_cond_false rfl ?_
                refine x_skip ?_
                refine x_seq ?_
                refine x_region rfl ?_
                refine x_mv rfl rfl trivial rfl ?_  -- law.go:360 move t7
                refine x_call rfl rfl trivial cal_disk_Disk_IsOn rfl (ct_disk_Disk_IsOn hw) rfl (fun w v102 hv => ?_)  -- law.go:360 call f27 (*coppice/disk.Disk).IsOn(t101)
                obtain ⟨rfl, hw⟩ := hv
                rw [hon]
                -- law.go:360 unOp "not" 4 102
                refine x_not rfl rfl trivial rfl ?_
                refine x_mv rfl rfl trivial rfl ?_  -- law.go:360 move t103
                refine xl_no rfl rfl rfl rfl rfl rfl ?_  -- passed over: move t11
                refine xl_no rfl rfl rfl rfl rfl rfl ?_  -- passed over: neq[26] t105 17
                refine x_pickF rfl rfl trivial rfl rfl rfl ?_  -- law.go:360 pick t104 ? t106 : False
                refine xl_nil ?_
                refine x_cond_false rfl ?_
                refine x_skip ?_
                refine x_region rfl ?_
                refine x_mv rfl rfl trivial rfl ?_  -- law.go:339 move t9
                refine x_addi rfl rfl trivial rfl rfl (by omega) ?_  -- law.go:339 add[3] t32 1
                refine x_as rfl rfl trivial rfl ?_  -- law.go:339 assign t33
                refine xl_nil ?_
                exact ⟨os'.length - (k + 1), by omega, [(1, _), (2, _), (7, _), (8, _), (9, .int .i64 (k + 1 : Nat))], (by repeat (first | exact Sub.nil _ | refine Sub.cons rfl ?_)), k + 1, D', dn', by omega, by omega, rfl, rfl, hinv', hw⟩
    · -- no
      refine x_exit rfl ?_  -- exit 0
      refine x_seq ?_
      refine x_region rfl ?_
      refine x_as rfl rfl trivial rfl ?_  -- law.go:364 assign True
      refine xl_nil ?_
      refine x_ret ?_
      exact end1 rfl rfl ⟨rfl, hw.tail⟩

end
end Go.Proofs.Ytekilljcoplacaa.X
