/- The document's disk: what it is in memory, and its functions. -/
import Derived.Test.YtekilljcoplacaaXLaw6j
namespace Go.Proofs.Ytekilljcoplacaa.X
set_option linter.unusedVariables false
set_option linter.unusedSimpArgs false

/-- the rows of the writes' bytes -/
def wrows : List Value → List (Nat × Bys) → List Assn
  | s :: ss, (_, c) :: ws => row 5 1 s 512 (bys c) :: wrows ss ws
  | _, _ => []
/-- the writes' cells -/
def wcs : List Value → List (Nat × Bys) → List Value
  | s :: ss, (i, _) :: ws => .int .i64 i :: s :: wcs ss ws
  | _, _ => []
theorem wcs_length : ∀ {ss : List Value} {ws : List (Nat × Bys)}, ss.length = ws.length → (wcs ss ws).length = ws.length * 2
  | [], [], _ => rfl
  | s :: ss, (i, c) :: ws, h => by simp only [wcs, List.length_cons]; have := wcs_length (ss := ss) (ws := ws) (by simpa using h); omega
  | [], _ :: _, h => by simp at h
  | _ :: _, [], h => by simp at h
theorem wrows_snoc : ∀ {ss : List Value} {ws : List (Nat × Bys)} (s : Value) (i : Nat) (c : Bys), ss.length = ws.length → wrows (ss ++ [s]) (ws ++ [(i, c)]) = wrows ss ws ++ [row 5 1 s 512 (bys c)]
  | [], [], _, _, _, _ => rfl
  | t :: ss, (j, d) :: ws, s, i, c, h => by simp only [List.cons_append, wrows]; rw [wrows_snoc s i c (by simpa using h)]
  | [], _ :: _, _, _, _, h => by simp at h
  | _ :: _, [], _, _, _, h => by simp at h
theorem wcs_snoc : ∀ {ss : List Value} {ws : List (Nat × Bys)} (s : Value) (i : Nat) (c : Bys), ss.length = ws.length → wcs (ss ++ [s]) (ws ++ [(i, c)]) = wcs ss ws ++ [.int .i64 i, s]
  | [], [], _, _, _, _ => rfl
  | t :: ss, (j, d) :: ws, s, i, c, h => by simp only [List.cons_append, wcs]; rw [wcs_snoc s i c (by simpa using h)]
  | [], _ :: _, _, _, _, h => by simp at h
  | _ :: _, [], _, _, _, h => by simp at h
theorem wcs_get : ∀ {ss : List Value} {ws : List (Nat × Bys)} {k : Nat} {i : Nat} {c : Bys}, ss.length = ws.length → ws[k]? = some (i, c) → ∃ s, ss[k]? = some s ∧ (wcs ss ws)[k * 2]? = some (.int .i64 i) ∧ (wcs ss ws)[k * 2 + 1]? = some s
  | [], [], _, _, _, _, h => by simp at h
  | t :: ss, (j, d) :: ws, 0, i, c, _, h => by simp at h; obtain ⟨rfl, rfl⟩ := h; exact ⟨t, rfl, rfl, rfl⟩
  | t :: ss, (j, d) :: ws, k + 1, i, c, hl, h => by
    obtain ⟨s, h1, h2, h3⟩ := wcs_get (ss := ss) (ws := ws) (k := k) (i := i) (c := c) (by simpa using hl) (by simpa using h)
    refine ⟨s, by simpa using h1, ?_, ?_⟩
    · rw [show (k + 1) * 2 = k * 2 + 2 by omega]; simpa [wcs] using h2
    · rw [show (k + 1) * 2 + 1 = k * 2 + 1 + 2 by omega]; simpa [wcs] using h3
  | [], _ :: _, _, _, _, h, _ => by simp at h
  | _ :: _, [], _, _, _, h, _ => by simp at h
/-- the bytes of a write -/
theorem wrows_knows : ∀ {ss : List Value} {ws : List (Nat × Bys)} {k : Nat} {i : Nat} {c : Bys} {s : Value}, c.length = 512 → ws[k]? = some (i, c) → ss[k]? = some s → Knows (wrows ss ws) (SlB s c)
  | t :: ss, (j, d) :: ws, 0, i, c, s, hc, h, h' => by
    simp at h h'
    obtain ⟨rfl, rfl⟩ := h; subst h'
    exact (SlB.row.head _).pick (by simp only [wrows]; rw [hc]; exact .here)
  | t :: ss, (j, d) :: ws, k + 1, i, c, s, hc, h, h' => (wrows_knows (k := k) (i := i) hc (by simpa using h) (by simpa using h')).cons _
  | [], _, k, _, _, _, _, _, h' => by simp at h'
  | _ :: _, [], _, _, _, _, _, h, _ => by simp at h
theorem both_knows {M : List Assn} {p : World → Prop} (k : Knows M p) : Knows [both M] p := fun g w h => k g w (by have := h.both_out; rwa [List.append_nil] at this)

/-- The struct's cells. -/
abbrev rcells (s wv : Value) (D : Dk) : List Value := [s, wv, .bool D.on, .int .i64 D.alarm, .int .i64 D.wrote, .int .i64 D.synced]
def rparts (q : Nat) (s wv : Value) (ss : List Value) (D : Dk) : List Assn :=
  [blk q (rcells s wv D) 56, row 5 1 s (512 * D.lasts.length) (bys D.img), row 92 2 wv D.ws.length (wcs ss D.ws), both (wrows ss D.ws)]
/-- The document's disk. -/
def rdk (q : Nat) (D : Dk) : Assn := fun h => D.Ok ∧ ∃ s wv ss, ss.length = D.ws.length ∧ all (rparts q s wv ss D) h

section
variable {G : Gh} {L R : List Assn} {w : World} {p q : Nat} {D : Dk}

theorem rdk_open (hw : Sat G (rdk q D :: R) w) : D.Ok ∧ ∃ s wv ss, ss.length = D.ws.length ∧ Sat G (rparts q s wv ss D ++ R) w := by
  obtain ⟨hg, h, hh, h1, h2, hd, hu, ⟨hok, s, wv, ss, hl, ha⟩, hR⟩ := hw
  exact ⟨hok, s, wv, ss, hl, Sat.both_out (M := rparts q s wv ss D) ⟨hg, h, hh, h1, h2, hd, hu, ha, hR⟩⟩
theorem rdk_shut {s wv : Value} {ss : List Value} (hok : D.Ok) (hl : ss.length = D.ws.length) (hw : Sat G (rparts q s wv ss D ++ R) w) : Sat G (rdk q D :: R) w := by
  have := Sat.both_in (M := rparts q s wv ss D) hw
  exact this.cons_mono fun h ha => ⟨hok, s, wv, ss, hl, ha⟩

theorem ct_ref06_Disk_has {l : Bys} {i : Int} {s b1 b2 b3 b4 b5 : Value} (hw : Sat G L w) (hp : Pick (blk q [s, b1, b2, b3, b4, b5] 56) L R) (ka : Knows L (SlB s l)) (hll : l.length ≤ 140737488355328) :
    Calls Try.prog 59 #[.pointer (some ⟨q, 0, none⟩), .int .i64 i] w (Ret fun r w' => r = .bool (decide (0 ≤ i ∧ i < (l.length / 512 : Nat))) ∧ Sat G L w') := by
  refine calls_of_x (args := [_, _]) func_ref06_Disk_has rfl nt_ref06_Disk_has rfl ?_
  refine x_seq ?_
  refine x_region rfl ?_
  refine x_as rfl rfl trivial rfl ?_  -- ref.go:45 assign False
  refine xl_nil ?_
  refine x_seq ?_
  refine x_region rfl ?_
  refine x_mv rfl rfl trivial rfl ?_  -- ref.go:45 move t1
  refine x_ge rfl rfl trivial rfl rfl ?_  -- ref.go:45 geq[3] t5 0
  refine x_mv rfl rfl trivial rfl ?_  -- ref.go:45 move t6
  refine xl_split (d := 7) rfl (fun h1 => ?_) (fun h1 => ?_)
  · -- yes
    refine x_mv rfl rfl ⟨_, rfl, rfl⟩ rfl ?_  -- ref.go:45 move t1
    refine x_mv rfl rfl ⟨_, rfl, rfl⟩ rfl ?_  -- ref.go:45 move t0
    refine x_call rfl rfl ⟨_, rfl, rfl⟩ cal_ref06_Disk_Blocks rfl (ct_ref06_Disk_Blocks (l := l) hw hp ka hll) rfl (fun w v10 hv => ?_)  -- ref.go:45 call f30 (*coppice/coppiceref06.Disk).Blocks(t9)
    obtain ⟨rfl, hw⟩ := hv
    refine x_lt rfl rfl ⟨_, rfl, rfl⟩ rfl rfl ?_  -- ref.go:45 lss[3] t8 t10
    refine x_pickT rfl rfl trivial rfl rfl rfl ?_  -- ref.go:45 pick t7 ? t11 : False
    refine x_as rfl rfl trivial rfl ?_  -- ref.go:45 assign t12
    refine xl_nil ?_
    refine x_ret ?_
    exact end1 rfl rfl ⟨by congr 1; simp; omega, hw⟩
  · -- no
    refine xl_no rfl rfl rfl rfl rfl rfl ?_  -- passed over: move t1
    refine xl_no rfl rfl rfl rfl rfl rfl ?_  -- passed over: move t0
    refine xl_no rfl rfl rfl rfl rfl rfl ?_  -- passed over: call f30 (*coppice/coppiceref06.Disk).Blocks(t9)
    refine xl_no rfl rfl rfl rfl rfl rfl ?_  -- passed over: lss[3] t8 t10
    refine x_pickF rfl rfl trivial rfl rfl rfl ?_  -- ref.go:45 pick t7 ? t11 : False
    refine x_as rfl rfl trivial rfl ?_  -- ref.go:45 assign t12
    refine xl_nil ?_
    refine x_ret ?_
    exact end1 rfl rfl ⟨by congr 1; simp; omega, hw⟩

theorem ct_ref06_Disk_lay {B : List Bys} {i n : Nat} {v : Value} {c : Bys} {s b1 b2 b3 b4 b5 : Value} (hw : Sat G (blk q [s, b1, b2, b3, b4, b5] 56 :: row 5 1 s n (bys B.flatten) :: L) w) (kb : Knows L (SlB v c)) (hc : c.length = 512) (hB : ∀ x ∈ B, x.length = 512) (hm : n = 512 * B.length) (hi : i < B.length) (hBl : B.length ≤ 65536) :
    Calls Try.prog 61 #[.pointer (some ⟨q, 0, none⟩), .int .i64 i, v] w (Ret fun r w' => r = .tuple #[] ∧ Sat G (blk q [s, b1, b2, b3, b4, b5] 56 :: row 5 1 s n (bys (B.set i c).flatten) :: L) w') := by
  obtain ⟨ab, cb, rfl⟩ := ((kb.of (by repeat (first | exact Suf.refl _ | apply Suf.cons))).at hw).form
  obtain ⟨bb, fb, rfl⟩ := ((kb.of (by repeat (first | exact Suf.refl _ | apply Suf.cons))).at hw).nn (by omega)
  obtain ⟨a8, c8, rfl⟩ := row_form (hw.pick (A := row _ _ _ _ _) (by repeat (first | with_reducible exact Pick.here | apply Pick.there)))
  obtain ⟨-, b8, cur, rfl, hc8, hm8, hcl8, hw⟩ := row_some (hw.pick (A := row 5 1 (.slice a8 _ c8) _ _) (by repeat (first | with_reducible exact Pick.here | apply Pick.there))) (by omega)
  have hXl : (bys B.flatten).length = n := by rw [bys_length, flat_len512 B hB, hm]
  have hol : (bys c).length = 512 := by rw [bys_length]; exact hc
  refine calls_of_x (args := [_, _, _]) func_ref06_Disk_lay rfl nt_ref06_Disk_lay rfl ?_
  refine x_seq ?_
  refine x_region rfl ?_
  refine x_as rfl rfl trivial rfl ?_  -- ref.go:102 assign 0
  refine xl_nil ?_
  refine x_block ?_
  refine x_loop (fun m e w => ∃ (k : Nat), k ≤ 512 ∧ m = 512 - k ∧ e = [(0, .pointer (some ⟨q, 0, none⟩)), (1, .int .i64 i), (2, .slice (some ⟨bb, fb, none⟩) c.length cb), (6, .int .i64 k)] ∧ Sat G (blk b8 (((bys B.flatten).take (i * 512) ++ (bys c).take k ++ (bys B.flatten).drop (i * 512 + k)) ++ cur) 5 :: blk q [.slice (some ⟨b8, 0, none⟩) n c8, b1, b2, b3, b4, b5] 56 :: L) w)
    (m := 512) (e₀ := [(0, .pointer (some ⟨q, 0, none⟩)), (1, .int .i64 i), (2, .slice (some ⟨bb, fb, none⟩) c.length cb), (6, .int .i64 (0 : Nat))]) (by repeat (first | exact Sub.nil _ | refine Sub.cons rfl ?_))
    ⟨0, Nat.zero_le _, rfl, rfl, by simpa using hw⟩ ?_
  rintro m e w ⟨k, hk, rfl, rfl, hw⟩
  refine x_seq ?_
  refine x_seq ?_
  refine x_region rfl ?_
  refine x_mv rfl rfl trivial rfl ?_  -- ref.go:102 move t6
  refine x_lt rfl rfl trivial rfl rfl ?_  -- ref.go:102 lss[3] t7 512
  refine xl_nil ?_
  refine x_if rfl (fun h1 => ?_) (fun h1 => ?_)
  · -- yes
    refine x_skip ?_
    refine x_seq ?_
    refine x_block ?_
    refine x_draw [0, 1, 2, 3, 4, 5, 6, 7, 8, 9, 10, 11, 12, 13] mixed (by kernel_rfl) ?_  -- region 3
    replace hw := hw.drawn (w.drawn + 1)
    refine x_mv rfl rfl trivial rfl ?_  -- ref.go:103 move t0
    refine x_nc rfl rfl trivial rfl ?_  -- ref.go:103 nilCheck t11
    refine x_fld rfl rfl trivial fo_coppiceref06_Disk_0 rfl ?_  -- ref.go:103 fieldAddr[56] t12 .Lasts(+0)
    refine x_ld rfl rfl trivial rfl (Loads.blk1 one_sl_uint8 hw (by repeat (first | with_reducible exact Pick.here | apply Pick.there)) rfl) ?_  -- ref.go:103 load[23] t13
    refine x_mv rfl rfl trivial rfl ?_  -- ref.go:103 move t1
    refine x_muli rfl rfl trivial rfl rfl (by omega) ?_  -- ref.go:103 mul[3] t15 512
    refine x_mv rfl rfl trivial rfl ?_  -- ref.go:103 move t6
    refine x_addi rfl rfl trivial rfl rfl (by omega) ?_  -- ref.go:103 add[3] t16 t17
    refine x_mv rfl rfl trivial rfl ?_  -- ref.go:103 move t2
    refine x_mv rfl rfl trivial rfl ?_  -- ref.go:103 move t6
    refine x_idx1 rfl rfl trivial U_sl_uint8 sz_uint8 rfl rfl ⟨by omega, by omega⟩ ?_  -- ref.go:103 indexAddr[23] t19 [t20] 
    refine x_ld rfl rfl trivial rfl (Loads.one one_uint8 (((kb.of (by repeat (first | exact Suf.refl _ | apply Suf.cons))).at hw).at ⟨by omega, by omega⟩)) ?_  -- ref.go:103 load[5] t21
    refine x_idx1 rfl rfl trivial U_sl_uint8 sz_uint8 rfl rfl ⟨by omega, by omega⟩ ?_  -- ref.go:103 indexAddr[23] t14 [t18] 
    -- ref.go:103 store[5] t23 := t22
    refine x_st1 (l' := ((bys B.flatten).take (i * 512) ++ (bys c).take (k + 1) ++ (bys B.flatten).drop (i * 512 + (k + 1))) ++ cur) rfl trivial rfl rfl one_uint8 rfl hw (by repeat (first | with_reducible exact Pick.here | apply Pick.there)) (by simp only [List.length_append, List.length_take, List.length_drop, hXl, hol, Nat.blt_eq]; omega) (by
      have hix : 0 + ((i : Int) * 512 + (k : Int)).toNat = i * 512 + k := by omega
      rw [hix, Int.toNat_natCast, List.set_append_left _ _ (by simp only [List.length_append, List.length_take, List.length_drop, hXl, hol]; omega), put_next (x := bys B.flatten) (c := bys c) (by omega) (by omega) _ (bys_get (by omega))]) (by kernel_rfl) (fun w hw => ?_)
    refine xl_nil ?_
    refine x_region rfl ?_
    refine x_mv rfl rfl trivial rfl ?_  -- ref.go:102 move t6
    refine x_addi rfl rfl trivial rfl rfl (by omega) ?_  -- ref.go:102 add[3] t9 1
    refine x_as rfl rfl trivial rfl ?_  -- ref.go:102 assign t10
    refine xl_nil ?_
    exact ⟨512 - (k + 1), by omega, [(0, _), (1, _), (2, _), (6, .int .i64 (k + 1 : Nat))], (by repeat (first | exact Sub.nil _ | refine Sub.cons rfl ?_)), k + 1, by omega, rfl, rfl, hw⟩
  · -- no
    refine x_exit rfl ?_  -- exit 0
    exact end0 rfl (by
  have hk' : k = 512 := by omega
  subst hk'
  have hset : (bys B.flatten).take (i * 512) ++ (bys c).take 512 ++ (bys B.flatten).drop (i * 512 + 512) = bys (B.set i c).flatten := by
    rw [← flat_set B i c hB (by omega), List.take_of_length_le (l := bys c) (by omega), bys_append, bys_append, bys_take, bys_drop, Nat.mul_comm]
  rw [hset] at hw
  have hsl : (bys (B.set i c).flatten).length = n := by rw [bys_length, flat_len512 _ (set_blk hB hc), List.length_set, hm]
  have hw := row_mk (z := 1) (m := n) hw (by omega) hc8 hm8 (by rw [List.length_append, hsl]; rw [List.length_append, hXl] at hcl8; exact hcl8)
  exact ⟨rfl, hw.pick (A := blk q _ _) (by repeat (first | with_reducible exact Pick.here | apply Pick.there))⟩)

theorem ct_ref06_Disk_act {al : Int} {b0 b1 b6 b7 : Value} {on : Bool} (hw : Sat G (blk p [b0, b1, .bool on, .int .i64 al, b6, b7] 56 :: L) w) (hal : -1 ≤ al ∧ al ≤ 9223372036854775807) :
    Calls Try.prog 60 #[.pointer (some ⟨p, 0, none⟩)] w (Ret fun v w' => v = .bool (decide (al ≠ 0)) ∧
      Sat G (blk p [b0, b1, .bool (if al = 0 then false else on), .int .i64 (if al = 0 then -1 else if 0 < al then al - 1 else al), b6, b7] 56 :: L) w') := by
  refine calls_of_x (args := [_]) func_ref06_Disk_act rfl nt_ref06_Disk_act rfl ?_
  refine x_seq ?_
  refine x_region rfl ?_
  refine x_as rfl rfl trivial rfl ?_  -- ref.go:69 assign False
  refine xl_nil ?_
  refine x_seq ?_
  refine x_seq ?_
  refine x_region rfl ?_
  refine x_mv rfl rfl trivial rfl ?_  -- ref.go:70 move t0
  refine x_nc rfl rfl trivial rfl ?_  -- ref.go:70 nilCheck t3
  refine x_fld rfl rfl trivial fo_coppiceref06_Disk_3 rfl ?_  -- ref.go:70 fieldAddr[56] t4 .Alarm(+3)
  refine x_ld rfl rfl trivial rfl (Loads.blk1 one_int hw (by repeat (first | with_reducible exact Pick.here | apply Pick.there)) rfl) ?_  -- ref.go:70 load[3] t5
  refine x_eq rfl rfl trivial rfl rfl rfl ?_  -- ref.go:70 eql[3] t6 0
  refine xl_nil ?_
  refine x_if rfl (fun h1 => ?_) (fun h1 => ?_)
  · -- yes
    refine x_seq ?_
    refine x_region rfl ?_
    refine x_mv rfl rfl trivial rfl ?_  -- ref.go:71 move t0
    refine x_nc rfl rfl trivial rfl ?_  -- ref.go:71 nilCheck t8
    refine x_fld rfl rfl trivial fo_coppiceref06_Disk_2 rfl ?_  -- ref.go:71 fieldAddr[56] t9 .Power(+2)
    refine x_st1 (l' := [_, _, _, _, _, _]) rfl trivial rfl rfl one_bool rfl hw (by repeat (first | with_reducible exact Pick.here | apply Pick.there)) rfl rfl rfl (fun w hw => ?_)  -- ref.go:71 store[4] t10 := False
    refine xl_nil ?_
    refine x_seq ?_
    refine x_region rfl ?_
    refine x_mv rfl rfl trivial rfl ?_  -- ref.go:72 move t0
    refine x_nc rfl rfl trivial rfl ?_  -- ref.go:72 nilCheck t11
    refine x_fld rfl rfl trivial fo_coppiceref06_Disk_3 rfl ?_  -- ref.go:72 fieldAddr[56] t12 .Alarm(+3)
    refine x_st1 (l' := [_, _, _, _, _, _]) rfl trivial rfl rfl one_int rfl hw (by repeat (first | with_reducible exact Pick.here | apply Pick.there)) rfl rfl rfl (fun w hw => ?_)  -- ref.go:72 store[3] t13 := -1
    refine xl_nil ?_
    refine x_seq ?_
    refine x_region rfl ?_
    refine x_as rfl rfl trivial rfl ?_  -- ref.go:73 assign False
    refine xl_nil ?_
    refine x_ret ?_
    exact end1 rfl rfl ⟨by simp [h1], by rw [if_pos h1, if_pos h1]; exact hw⟩
  · -- no
    refine x_skip ?_
    refine x_seq ?_
    refine x_seq ?_
    refine x_region rfl ?_
    refine x_mv rfl rfl trivial rfl ?_  -- ref.go:75 move t0
    refine x_nc rfl rfl trivial rfl ?_  -- ref.go:75 nilCheck t14
    refine x_fld rfl rfl trivial fo_coppiceref06_Disk_3 rfl ?_  -- ref.go:75 fieldAddr[56] t15 .Alarm(+3)
    refine x_ld rfl rfl trivial rfl (Loads.blk1 one_int hw (by repeat (first | with_reducible exact Pick.here | apply Pick.there)) rfl) ?_  -- ref.go:75 load[3] t16
    refine x_gt rfl rfl trivial rfl rfl ?_  -- ref.go:75 gtr[3] t17 0
    refine xl_nil ?_
    refine x_if rfl (fun h2 => ?_) (fun h2 => ?_)
    · -- yes
      refine x_region rfl ?_
      refine x_mv rfl rfl trivial rfl ?_  -- ref.go:76 move t0
      refine x_mv rfl rfl trivial rfl ?_  -- ref.go:76 move t0
      refine x_nc rfl rfl trivial rfl ?_  -- ref.go:76 nilCheck t20
      refine x_fld rfl rfl trivial fo_coppiceref06_Disk_3 rfl ?_  -- ref.go:76 fieldAddr[56] t21 .Alarm(+3)
      refine x_ld rfl rfl trivial rfl (Loads.blk1 one_int hw (by repeat (first | with_reducible exact Pick.here | apply Pick.there)) rfl) ?_  -- ref.go:76 load[3] t22
      refine x_subi rfl rfl trivial rfl rfl (by omega) ?_  -- ref.go:76 sub[3] t23 1
      refine x_nc rfl rfl trivial rfl ?_  -- ref.go:76 nilCheck t19
      refine x_fld rfl rfl trivial fo_coppiceref06_Disk_3 rfl ?_  -- ref.go:76 fieldAddr[56] t25 .Alarm(+3)
      refine x_st1 (l' := [_, _, _, _, _, _]) rfl trivial rfl rfl one_int rfl hw (by repeat (first | with_reducible exact Pick.here | apply Pick.there)) rfl rfl rfl (fun w hw => ?_)  -- ref.go:76 store[3] t26 := t24
      refine xl_nil ?_
      refine x_seq ?_
      refine x_region rfl ?_
      refine x_as rfl rfl trivial rfl ?_  -- ref.go:78 assign True
      refine xl_nil ?_
      refine x_ret ?_
      exact end1 rfl rfl ⟨by simp [h1], by rw [if_neg h1, if_neg h1, if_pos h2]; exact hw⟩
    · -- no
      refine x_skip ?_
      refine x_seq ?_
      refine x_region rfl ?_
      refine x_as rfl rfl trivial rfl ?_  -- ref.go:78 assign True
      refine xl_nil ?_
      refine x_ret ?_
      exact end1 rfl rfl ⟨by simp [h1], by rw [if_neg h1, if_neg h1, if_neg h2]; exact hw⟩

theorem img_div (h : D.Ok) : D.img.length / 512 = D.lasts.length := by rw [h.img]; omega

theorem ct_ref06_Disk_Write {i : Int} {v : Value} {l : Bys} (hw : Sat G (rdk q D :: L) w) (ka : Knows L (SlB v l)) (hll : l.length ≤ 140737488355328) (hcnt : D.wrote < 1000000000) :
    Calls Try.prog 37 #[.pointer (some ⟨q, 0, none⟩), .int .i64 i, v] w (Ret fun r w' => r = .int .i64 (D.write i l).1 ∧ Sat G (rdk q (D.write i l).2 :: L) w') := by
  obtain ⟨a, cap, rfl⟩ := ((ka.of (by repeat (first | exact Suf.refl _ | apply Suf.cons))).at hw).form
  obtain ⟨hok, s, wv, ss, hss, hw⟩ := rdk_open hw
  simp only [rparts, rcells, List.cons_append, List.nil_append] at hw
  have hwn := hok.cnt
  have hal := hok.alarm
  have hhi := hok.hi
  have hig := hok.img
  refine calls_of_x (args := [_, _, _]) func_ref06_Disk_Write rfl nt_ref06_Disk_Write rfl ?_
  refine x_seq ?_
  refine x_region rfl ?_
  refine x_as rfl rfl trivial rfl ?_  -- ref.go:82 assign 0
  refine xl_nil ?_
  refine x_seq ?_
  refine x_seq ?_
  refine x_region rfl ?_
  refine x_mv rfl rfl trivial rfl ?_  -- ref.go:83 move t0
  refine x_nc rfl rfl trivial rfl ?_  -- ref.go:83 nilCheck t7
  refine x_fld rfl rfl trivial fo_coppiceref06_Disk_2 rfl ?_  -- ref.go:83 fieldAddr[56] t8 .Power(+2)
  refine x_ld rfl rfl trivial rfl (Loads.blk1 one_bool hw (by repeat (first | with_reducible exact Pick.here | apply Pick.there)) rfl) ?_  -- ref.go:83 load[4] t9
  -- ref.go:83 unOp "not" 4 10
  refine x_not rfl rfl trivial rfl ?_
  refine xl_nil ?_
  refine x_cond rfl (fun h1 => ?_) (fun h1 => ?_)
  · -- yes
    refine x_seq ?_
    refine x_region rfl ?_
    refine x_as rfl rfl trivial rfl ?_  -- ref.go:84 assign 17
    refine xl_nil ?_
    refine x_ret ?_
    exact end1 rfl rfl (by
  have h1' : D.on = false := by simpa using h1
  unfold Dk.write; rw [if_pos h1']; exact ⟨rfl, rdk_shut hok hss hw⟩)
  · -- no
    have hon : ¬ D.on = false := by simpa using h1
    refine x_skip ?_
    refine x_seq ?_
    refine x_seq ?_
    refine x_region rfl ?_
    refine x_mv rfl rfl trivial rfl ?_  -- ref.go:86 move t0
    refine x_mv rfl rfl trivial rfl ?_  -- ref.go:86 move t1
    refine x_call rfl rfl trivial cal_ref06_Disk_has rfl (ct_ref06_Disk_has (l := D.img) hw (R := _) (by repeat (first | with_reducible exact Pick.here | apply Pick.there)) (rowB (n := 512 * D.lasts.length) hig (by repeat (first | with_reducible exact Pick.here | apply Pick.there))) (by omega)) rfl (fun w v14 hv => ?_)  -- ref.go:86 call f59 (*coppice/coppiceref06.Disk).has(t12, t13)
    obtain ⟨rfl, hw⟩ := hv
    rw [img_div hok]
    refine x_notp rfl rfl trivial rfl ?_  -- ref.go:86 unOp "not" 4 14
    refine xl_nil ?_
    refine x_if rfl (fun h2 => ?_) (fun h2 => ?_)
    · -- yes
      refine x_seq ?_
      refine x_region rfl ?_
      refine x_as rfl rfl trivial rfl ?_  -- ref.go:87 assign 16
      refine xl_nil ?_
      refine x_ret ?_
      exact end1 rfl rfl (by unfold Dk.write; rw [if_neg hon, if_pos h2]; exact ⟨rfl, rdk_shut hok hss hw⟩)
    · -- no
      refine x_skip ?_
      refine x_seq ?_
      refine x_seq ?_
      refine x_region rfl ?_
      refine x_mv rfl rfl trivial rfl ?_  -- ref.go:89 move t2
      refine x_len rfl rfl trivial rfl U_sl_uint8 rfl ?_  -- ref.go:89 len(t16)
      refine x_ne rfl rfl trivial rfl rfl rfl ?_  -- ref.go:89 neq[3] t17 512
      refine xl_nil ?_
      refine x_if rfl (fun h3 => ?_) (fun h3 => ?_)
      · -- yes
        refine x_seq ?_
        refine x_region rfl ?_
        refine x_as rfl rfl trivial rfl ?_  -- ref.go:90 assign 1
        refine xl_nil ?_
        refine x_ret ?_
        exact end1 rfl rfl (by unfold Dk.write; rw [if_neg hon, if_neg h2, if_pos (by omega)]; exact ⟨rfl, rdk_shut hok hss hw⟩)
      · -- no
        have hl5 : l.length = 512 := by omega
        have hin : 0 ≤ i ∧ i < D.lasts.length := Decidable.not_not.1 h2
        obtain ⟨j, rfl⟩ := Int.eq_ofNat_of_zero_le hin.1
        refine x_skip ?_
        refine x_seq ?_
        refine x_seq ?_
        refine x_region rfl ?_
        refine x_mv rfl rfl trivial rfl ?_  -- ref.go:92 move t0
        refine x_call rfl rfl trivial cal_ref06_Disk_act rfl (ct_ref06_Disk_act hw hal) rfl (fun w v20 hv => ?_)  -- ref.go:92 call f60 (*coppice/coppiceref06.Disk).act(t19)
        obtain ⟨rfl, hw⟩ := hv
        refine x_notp rfl rfl trivial rfl ?_  -- ref.go:92 unOp "not" 4 20
        refine xl_nil ?_
        refine x_if rfl (fun h4 => ?_) (fun h4 => ?_)
        · -- yes
          have h0 : D.alarm = 0 := by simpa using h4
          refine x_seq ?_
          refine x_region rfl ?_
          refine x_as rfl rfl trivial rfl ?_  -- ref.go:93 assign 17
          refine xl_nil ?_
          refine x_ret ?_
          exact end1 rfl rfl (by
  unfold Dk.write; rw [if_neg hon, if_neg h2, if_neg (by omega), if_pos h0]
  rw [if_pos h0, if_pos h0] at hw
  exact ⟨rfl, rdk_shut (D := D.failed) hok.failed hss hw⟩)
        · -- no
          have h0 : ¬ D.alarm = 0 := by simpa using h4
          rw [if_neg h0, if_neg h0] at hw
          refine x_skip ?_
          refine x_seq ?_
          refine x_draw [0, 1, 2, 3, 4, 5, 6, 7, 8, 9, 10, 11, 12, 13] mixed (by kernel_rfl) ?_  -- region 9
          replace hw := hw.drawn (w.drawn + 1)
          refine x_mv rfl rfl trivial rfl ?_  -- ref.go:95 move t0
          refine x_mv rfl rfl trivial rfl ?_  -- ref.go:95 move t0
          refine x_nc rfl rfl trivial rfl ?_  -- ref.go:95 nilCheck t23
          refine x_fld rfl rfl trivial fo_coppiceref06_Disk_1 rfl ?_  -- ref.go:95 fieldAddr[56] t24 .Writes(+1)
          refine x_ld rfl rfl trivial rfl (Loads.blk1 one_sl_coppiceref06_Written hw (by repeat (first | with_reducible exact Pick.here | apply Pick.there)) rfl) ?_  -- ref.go:95 load[54] t25
          refine x_mv rfl rfl trivial rfl ?_  -- ref.go:95 move t1
          refine x_mv rfl rfl trivial rfl ?_  -- ref.go:95 move t2
          -- ref.go:95 call f15 coppice/coppiceref00.CopyBytes(t28)
          refine x_callP rfl rfl trivial cal_ref00_CopyBytes rfl (ct_ref00_CopyBytes (l := l) hw (ka.of (by repeat (first | exact Suf.refl _ | apply Suf.cons))) hll) (fun w v hw q' hq => ?_) (fun w v29 hw => ?_)
          · obtain rfl := pend_one (q0 := 4) (by kernel_rfl) hq
            exact chk_ld rfl rfl rfl (Loads.blk1 one_sl_coppiceref06_Written hw (by repeat (first | with_reducible exact Pick.here | apply Pick.there)) rfl)
          replace hw : Sat G (row 5 1 v29 l.length (bys l) :: _) w := hw
          rw [hl5] at hw
          obtain ⟨a29, c29, rfl⟩ := row_form hw
          have hones : Ones [.int .i64 j, .slice a29 512 c29] := fun u hu => by simp at hu; rcases hu with rfl | rfl <;> rfl
          -- ref.go:95 build 92 [[0, 27], [1, 29]]
          refine x_build (v := .agg #[.int .i64 j, .slice a29 512 c29]) rfl rfl trivial rfl (fun w => by kernel_rfl) ?_
          -- ref.go:95 buildSlice 54 1 [[0, 30]]
          refine x_bs1P (cs := [.int .i64 j, .slice a29 512 c29]) rfl rfl trivial U_sl_coppiceref06_Written sz_coppiceref06_Written zs_coppiceref06_Written (by decide) rfl rfl rfl hw (fun w b hw q' hq => ?_) (fun w b31 hw => ?_)
          · obtain rfl := pend_one (q0 := 4) (by kernel_rfl) hq
            exact chk_ld rfl rfl rfl (Loads.blk1 one_sl_coppiceref06_Written hw (by repeat (first | with_reducible exact Pick.here | apply Pick.there)) rfl)
          -- ref.go:95 append(t26, t31)
          refine x_app (m := D.ws.length) (k := 1) (news := [.int .i64 j, .slice a29 512 c29]) rfl rfl trivial U_sl_coppiceref06_Written sz_coppiceref06_Written by_coppiceref06_Written zs_coppiceref06_Written rfl rfl hw (by repeat (first | with_reducible exact Pick.here | apply Pick.there)) (Rd.blk0 hw (by repeat (first | with_reducible exact Pick.here | apply Pick.there))) rfl hones (by simp only [maxLen]; omega) (by omega) (by kernel_rfl) (fun w v32 hw => ?_)
          obtain ⟨a32, c32, rfl⟩ := row_form hw
          refine x_nc rfl rfl trivial rfl ?_  -- ref.go:95 nilCheck t22
          refine x_fld rfl rfl trivial fo_coppiceref06_Disk_1 rfl ?_  -- ref.go:95 fieldAddr[56] t33 .Writes(+1)
          refine x_st1 (l' := [_, _, _, _, _, _]) rfl trivial rfl rfl one_sl_coppiceref06_Written rfl hw (by repeat (first | with_reducible exact Pick.here | apply Pick.there)) rfl rfl (by kernel_rfl) (fun w hw => ?_)  -- ref.go:95 store[54] t34 := t32
          refine xl_nil ?_
          refine x_seq ?_
          refine x_region rfl ?_
          refine x_mv rfl rfl trivial rfl ?_  -- ref.go:96 move t0
          refine x_nc rfl rfl trivial rfl ?_  -- ref.go:96 nilCheck t35
          refine x_fld rfl rfl trivial fo_coppiceref06_Disk_4 rfl ?_  -- ref.go:96 fieldAddr[56] t36 .Wrote(+4)
          refine x_ld rfl rfl trivial rfl (Loads.blk1 one_int hw (by repeat (first | with_reducible exact Pick.here | apply Pick.there)) rfl) ?_  -- ref.go:96 load[3] t37
          refine x_addi rfl rfl trivial rfl rfl (by omega) ?_  -- ref.go:96 add[3] t38 1
          refine x_nc rfl rfl trivial rfl ?_  -- ref.go:96 nilCheck t35
          refine x_fld rfl rfl trivial fo_coppiceref06_Disk_4 rfl ?_  -- ref.go:96 fieldAddr[56] t40 .Wrote(+4)
          refine x_st1 (l' := [_, _, _, _, _, _]) rfl trivial rfl rfl one_int rfl hw (by repeat (first | with_reducible exact Pick.here | apply Pick.there)) rfl rfl rfl (fun w hw => ?_)  -- ref.go:96 store[3] t41 := t39
          refine xl_nil ?_
          refine x_seq ?_
          refine x_region rfl ?_
          refine x_as rfl rfl trivial rfl ?_  -- ref.go:97 assign 0
          refine xl_nil ?_
          refine x_ret ?_
          exact end1 rfl rfl (by
  unfold Dk.write; rw [if_neg hon, if_neg h2, if_neg (by omega), if_neg h0]
  refine ⟨rfl, rdk_shut (D := D.wr j l) (s := s) (wv := .slice a32 (D.ws.length + 1) c32) (ss := ss ++ [.slice a29 512 c29]) (hok.write (by omega) hl5 h0) (by simp [Dk.wr, hss]) ?_⟩
  have h := hw.bring (As := [both _, row 5 1 (.slice a29 512 c29) _ _, blk q _ _, row 5 1 s _ _, row 92 2 _ _ _, blk b31 _ _]) (by repeat (first | exact Bring.nil | (apply Bring.cons; repeat (first | with_reducible exact Pick.here | apply Pick.there))))
  have h := h.both_out
  have h : Sat G (both (wrows ss D.ws ++ [row 5 1 (.slice a29 512 c29) 512 (bys l)]) :: _) _ := Sat.both_in (by rw [List.append_assoc]; exact h)
  rw [← wrows_snoc (.slice a29 512 c29) j l hss] at h
  have h := (h.drop (.there (.there (.there (.there (Pick.here (A := blk b31 _ _)))))))
  have h := h.bring (As := [blk q _ _, row 5 1 s _ _, row 92 2 _ _ _, both _]) (by repeat (first | exact Bring.nil | (apply Bring.cons; repeat (first | with_reducible exact Pick.here | apply Pick.there))))
  refine h.of_eq ?_
  simp [rparts, rcells, Dk.wr, Dk.tick, Dk.img, wcs_snoc _ j l hss])

/-- the row of the writes, opened at one of them -/
theorem rw_open {wv : Value} {ss : List Value} {ws : List (Nat × Bys)} {k i : Nat} {c : Bys} (hss : ss.length = ws.length) (hk : ws[k]? = some (i, c)) (hc : c.length = 512) (hw : Sat G L w) (p : Pick (row 92 2 wv ws.length (wcs ss ws)) L R) {R' : List Assn} (pb : Pick (both (wrows ss ws)) L R') :
    ∃ bw cap cur b o cb, wv = .slice (some ⟨bw, 0, none⟩) ws.length cap ∧ ws.length ≤ cap ∧ cap ≤ maxLen ∧ (wcs ss ws ++ cur).length = cap * 2 ∧ Sat G (blk bw (wcs ss ws ++ cur) 92 :: R) w ∧
      (wcs ss ws ++ cur)[0 + (k : Int).toNat * 2 + 0]? = some (.int .i64 i) ∧ (wcs ss ws ++ cur)[0 + (k : Int).toNat * 2 + 1]? = some (.slice (some ⟨b, o, none⟩) c.length cb) ∧ Knows [both (wrows ss ws)] (SlB (.slice (some ⟨b, o, none⟩) c.length cb) c) := by
  have hkl : k < ws.length := by
    rcases Nat.lt_or_ge k ws.length with h | h
    · exact h
    · rw [List.getElem?_eq_none h] at hk; cases hk
  obtain ⟨s, h1, h2, h3⟩ := wcs_get hss hk
  have hkn := both_knows (wrows_knows hc hk h1)
  have hw2 := hw.pick pb
  obtain ⟨a, cb, rfl⟩ := (hkn.at hw2.head).form
  obtain ⟨b, o, rfl⟩ := (hkn.at hw2.head).nn (by omega)
  obtain ⟨a', cap, rfl⟩ := row_form (hw.pick p)
  obtain ⟨-, bw, cur, rfl, hcc, hcm, hcl, hw'⟩ := row_some (hw.pick p) (by omega)
  have hwl := wcs_length hss
  refine ⟨bw, cap, cur, b, o, cb, rfl, hcc, hcm, hcl, hw', ?_, ?_, hkn⟩
  · rw [Int.toNat_natCast, Nat.zero_add, Nat.add_zero, List.getElem?_append_left (by omega)]; exact h2
  · rw [Int.toNat_natCast, Nat.zero_add, List.getElem?_append_left (by omega)]; exact h3

theorem ct_ref06_Disk_Sync (hw : Sat G (rdk q D :: L) w) (hcnt : D.wrote < 1000000000) (hsyn : D.synced < 1000000000) :
    Calls Try.prog 63 #[.pointer (some ⟨q, 0, none⟩)] w (Ret fun r w' => r = .int .i64 D.sync.1 ∧ Sat G (rdk q D.sync.2 :: L) w') := by
  obtain ⟨hok, s, wv, ss, hss, hw⟩ := rdk_open hw
  simp only [rparts, rcells, List.cons_append, List.nil_append] at hw
  have hwn := hok.cnt
  have hal := hok.alarm
  have hhi := hok.hi
  have hig := hok.img
  refine calls_of_x (args := [_]) func_ref06_Disk_Sync rfl nt_ref06_Disk_Sync rfl ?_
  refine x_seq ?_
  refine x_region rfl ?_
  refine x_as rfl rfl trivial rfl ?_  -- ref.go:108 assign 0
  refine xl_nil ?_
  refine x_seq ?_
  refine x_seq ?_
  refine x_region rfl ?_
  refine x_mv rfl rfl trivial rfl ?_  -- ref.go:109 move t0
  refine x_nc rfl rfl trivial rfl ?_  -- ref.go:109 nilCheck t4
  refine x_fld rfl rfl trivial fo_coppiceref06_Disk_2 rfl ?_  -- ref.go:109 fieldAddr[56] t5 .Power(+2)
  refine x_ld rfl rfl trivial rfl (Loads.blk1 one_bool hw (by repeat (first | with_reducible exact Pick.here | apply Pick.there)) rfl) ?_  -- ref.go:109 load[4] t6
  -- ref.go:109 unOp "not" 4 7
  refine x_not rfl rfl trivial rfl ?_
  refine xl_nil ?_
  refine x_cond rfl (fun h1 => ?_) (fun h1 => ?_)
  · -- yes
    refine x_seq ?_
    refine x_region rfl ?_
    refine x_as rfl rfl trivial rfl ?_  -- ref.go:110 assign 17
    refine xl_nil ?_
    refine x_ret ?_
    exact end1 rfl rfl (by
  have h1' : D.on = false := by simpa using h1
  unfold Dk.sync; rw [if_pos h1']; exact ⟨rfl, rdk_shut hok hss hw⟩)
  · -- no
    have hon : ¬ D.on = false := by simpa using h1
    refine x_skip ?_
    refine x_seq ?_
    refine x_seq ?_
    refine x_region rfl ?_
    refine x_mv rfl rfl trivial rfl ?_  -- ref.go:112 move t0
    refine x_call rfl rfl trivial cal_ref06_Disk_act rfl (ct_ref06_Disk_act hw hal) rfl (fun w v10 hv => ?_)  -- ref.go:112 call f60 (*coppice/coppiceref06.Disk).act(t9)
    obtain ⟨rfl, hw⟩ := hv
    refine x_notp rfl rfl trivial rfl ?_  -- ref.go:112 unOp "not" 4 10
    refine xl_nil ?_
    refine x_if rfl (fun h2 => ?_) (fun h2 => ?_)
    · -- yes
      have h0 : D.alarm = 0 := by simpa using h2
      refine x_seq ?_
      refine x_region rfl ?_
      refine x_as rfl rfl trivial rfl ?_  -- ref.go:113 assign 17
      refine xl_nil ?_
      refine x_ret ?_
      exact end1 rfl rfl (by
  unfold Dk.sync; rw [if_neg hon, if_pos h0]
  rw [if_pos h0, if_pos h0] at hw
  exact ⟨rfl, rdk_shut (D := D.failed) hok.failed hss hw⟩)
    · -- no
      have h0 : ¬ D.alarm = 0 := by simpa using h2
      rw [if_neg h0, if_neg h0] at hw
      refine x_skip ?_
      refine x_seq ?_
      refine x_seq ?_
      refine x_region rfl ?_
      refine x_as rfl rfl trivial rfl ?_  -- ref.go:115 assign 0
      refine xl_nil ?_
      refine x_block ?_
      refine x_loop (fun m e w => ∃ k : Nat, k ≤ D.ws.length ∧ m = D.ws.length - k ∧ e = [(0, .pointer (some ⟨q, 0, none⟩)), (3, .int .i64 k)] ∧ Sat G (blk q [s, wv, .bool D.on, .int .i64 (if 0 < D.alarm then D.alarm - 1 else D.alarm), .int .i64 D.wrote, .int .i64 D.synced] 56 :: row 5 1 s (512 * D.lasts.length) (bys (settleL (fun _ => true) (D.ws.take k) 0 D.lasts).flatten) :: row 92 2 wv D.ws.length (wcs ss D.ws) :: both (wrows ss D.ws) :: L) w)
        (m := D.ws.length) (e₀ := [(0, .pointer (some ⟨q, 0, none⟩)), (3, .int .i64 (0 : Nat))]) (by repeat (first | exact Sub.nil _ | refine Sub.cons rfl ?_))
        ⟨0, Nat.zero_le _, rfl, rfl, hw⟩ ?_
      rintro m e w ⟨k, hk, rfl, rfl, hw⟩
      obtain ⟨aw, cw, rfl⟩ := row_form (hw.pick (A := row 92 _ _ _ _) (by repeat (first | with_reducible exact Pick.here | apply Pick.there)))
      refine x_seq ?_
      refine x_seq ?_
      refine x_region rfl ?_
      refine x_mv rfl rfl trivial rfl ?_  -- ref.go:115 move t3
      refine x_mv rfl rfl trivial rfl ?_  -- ref.go:115 move t0
      refine x_nc rfl rfl trivial rfl ?_  -- ref.go:115 nilCheck t13
      refine x_fld rfl rfl trivial fo_coppiceref06_Disk_1 rfl ?_  -- ref.go:115 fieldAddr[56] t14 .Writes(+1)
      refine x_ld rfl rfl trivial rfl (Loads.blk1 one_sl_coppiceref06_Written hw (by repeat (first | with_reducible exact Pick.here | apply Pick.there)) rfl) ?_  -- ref.go:115 load[54] t15
      refine x_len rfl rfl trivial rfl U_sl_coppiceref06_Written rfl ?_  -- ref.go:115 len(t16)
      refine x_lt rfl rfl trivial rfl rfl ?_  -- ref.go:115 lss[3] t12 t17
      refine xl_nil ?_
      refine x_if rfl (fun h3 => ?_) (fun h3 => ?_)
      · -- yes
        have hk' : k < D.ws.length := by omega
        obtain ⟨⟨i, c⟩, hx⟩ : ∃ x, D.ws[k]? = some x := ⟨_, List.getElem?_eq_getElem hk'⟩
        have hwx := hok.ws _ (List.mem_of_getElem? hx)
        simp only at hwx
        obtain ⟨bw, cap, cur, bb, ob, cb, hwv, hcc, hcm, hcl, hw, hc1, hc2, hkn⟩ := rw_open hss hx hwx.2 hw (R := _) (by repeat (first | with_reducible exact Pick.here | apply Pick.there)) (R' := _) (by repeat (first | with_reducible exact Pick.here | apply Pick.there))
        cases hwv
        have hBl := settleL_length (fun _ => true) (D.ws.take k) 0 D.lasts
        have hBb := settleL_blk (fun _ => true) (D.ws.take k) 0 D.lasts (fun x hx => (hok.ws x (List.mem_of_mem_take hx)).2) hok.blk
        have hsn : settleL (fun _ => true) (D.ws.take (k + 1)) 0 D.lasts = (settleL (fun _ => true) (D.ws.take k) 0 D.lasts).set i c := by rw [List.take_add_one, hx]; simp only [Option.toList]; rw [settleL_snoc]; rfl
        refine x_skip ?_
        refine x_seq ?_
        refine x_block ?_
        refine x_draw [0, 1, 2, 3, 4, 5, 6, 7, 8, 9, 10, 11, 12, 13, 14, 15, 16, 17] mixed (by kernel_rfl) ?_  -- region 8
        replace hw := hw.drawn (w.drawn + 1)
        refine x_mv rfl rfl trivial rfl ?_  -- ref.go:116 move t0
        refine x_mv rfl rfl trivial rfl ?_  -- ref.go:116 move t0
        refine x_nc rfl rfl trivial rfl ?_  -- ref.go:116 nilCheck t22
        refine x_fld rfl rfl trivial fo_coppiceref06_Disk_1 rfl ?_  -- ref.go:116 fieldAddr[56] t23 .Writes(+1)
        refine x_ld rfl rfl trivial rfl (Loads.blk1 one_sl_coppiceref06_Written hw (by repeat (first | with_reducible exact Pick.here | apply Pick.there)) rfl) ?_  -- ref.go:116 load[54] t24
        refine x_mv rfl rfl trivial rfl ?_  -- ref.go:116 move t3
        refine x_idx rfl rfl trivial U_sl_coppiceref06_Written sz_coppiceref06_Written rfl rfl ⟨by omega, by omega⟩ ?_  -- ref.go:116 indexAddr[54] t25 [t26] 
        refine x_fldk rfl rfl trivial fo_coppiceref06_Written_0 rfl ?_  -- ref.go:116 fieldAddr[92] t27 .Block(+0)
        refine x_ld rfl rfl trivial rfl (Loads.blk1 one_int hw (by repeat (first | with_reducible exact Pick.here | apply Pick.there)) hc1) ?_  -- ref.go:116 load[3] t28
        refine x_mv rfl rfl trivial rfl ?_  -- ref.go:116 move t0
        refine x_nc rfl rfl trivial rfl ?_  -- ref.go:116 nilCheck t30
        refine x_fld rfl rfl trivial fo_coppiceref06_Disk_1 rfl ?_  -- ref.go:116 fieldAddr[56] t31 .Writes(+1)
        refine x_ld rfl rfl trivial rfl (Loads.blk1 one_sl_coppiceref06_Written hw (by repeat (first | with_reducible exact Pick.here | apply Pick.there)) rfl) ?_  -- ref.go:116 load[54] t32
        refine x_mv rfl rfl trivial rfl ?_  -- ref.go:116 move t3
        refine x_idx rfl rfl trivial U_sl_coppiceref06_Written sz_coppiceref06_Written rfl rfl ⟨by omega, by omega⟩ ?_  -- ref.go:116 indexAddr[54] t33 [t34] 
        refine x_fldk rfl rfl trivial fo_coppiceref06_Written_1 rfl ?_  -- ref.go:116 fieldAddr[92] t35 .Bytes(+1)
        refine x_ld rfl rfl trivial rfl (Loads.blk1 one_sl_uint8 hw (by repeat (first | with_reducible exact Pick.here | apply Pick.there)) hc2) ?_  -- ref.go:116 load[23] t36
        refine x_call rfl rfl trivial cal_ref06_Disk_lay rfl (ct_ref06_Disk_lay (n := 512 * D.lasts.length) (i := i) (c := c) (hw.bring (As := [blk q _ _, row 5 1 s _ _]) (by repeat (first | exact Bring.nil | (apply Bring.cons; repeat (first | with_reducible exact Pick.here | apply Pick.there))))) ((hkn.head _).pick (by repeat (first | with_reducible exact Pick.here | apply Pick.there))) hwx.2 hBb (by rw [hBl]) (by rw [hBl]; exact hwx.1) (by rw [hBl]; exact hhi)) (by kernel_rfl) (fun w v38 hv => ?_)  -- ref.go:116 call f61 (*coppice/coppiceref06.Disk).lay(t21, t29, t37)
        obtain ⟨-, hw⟩ := hv
        rw [← hsn] at hw
        have hw := row_mk (z := 2) (m := D.ws.length) (hw.pick (A := blk bw _ _) (by repeat (first | with_reducible exact Pick.here | apply Pick.there))) (wcs_length hss) hcc hcm hcl
        refine xl_nil ?_
        refine x_region rfl ?_
        refine x_mv rfl rfl trivial rfl ?_  -- ref.go:115 move t3
        refine x_addi rfl rfl trivial rfl rfl (by omega) ?_  -- ref.go:115 add[3] t19 1
        refine x_as rfl rfl trivial rfl ?_  -- ref.go:115 assign t20
        refine xl_nil ?_
        exact ⟨D.ws.length - (k + 1), by omega, [(0, _), (3, .int .i64 (k + 1 : Nat))], (by repeat (first | exact Sub.nil _ | refine Sub.cons rfl ?_)), k + 1, by omega, rfl, rfl, hw.bring (As := [blk q _ _, row 5 1 s _ _, row _ _ _ _ _, both _]) (by repeat (first | exact Bring.nil | (apply Bring.cons; repeat (first | with_reducible exact Pick.here | apply Pick.there))))⟩
      · -- no
        have hkk : k = D.ws.length := by omega
        subst hkk
        rw [List.take_length] at hw
        refine x_exit rfl ?_  -- exit 0
        refine x_seq ?_
        refine x_region rfl ?_
        refine x_mv rfl rfl trivial rfl ?_  -- ref.go:118 move t0
        refine x_nc rfl rfl trivial rfl ?_  -- ref.go:118 nilCheck t39
        refine x_fld rfl rfl trivial fo_coppiceref06_Disk_1 rfl ?_  -- ref.go:118 fieldAddr[56] t40 .Writes(+1)
        refine x_st1 (l' := [_, _, _, _, _, _]) rfl trivial rfl rfl one_sl_coppiceref06_Written rfl hw (by repeat (first | with_reducible exact Pick.here | apply Pick.there)) rfl rfl rfl (fun w hw => ?_)  -- ref.go:118 store[54] t41 := {'nilslice': 1}
        refine xl_nil ?_
        refine x_seq ?_
        refine x_region rfl ?_
        refine x_mv rfl rfl trivial rfl ?_  -- ref.go:119 move t0
        refine x_nc rfl rfl trivial rfl ?_  -- ref.go:119 nilCheck t42
        refine x_fld rfl rfl trivial fo_coppiceref06_Disk_5 rfl ?_  -- ref.go:119 fieldAddr[56] t43 .Synced(+5)
        refine x_ld rfl rfl trivial rfl (Loads.blk1 one_int hw (by repeat (first | with_reducible exact Pick.here | apply Pick.there)) rfl) ?_  -- ref.go:119 load[3] t44
        refine x_addi rfl rfl trivial rfl rfl (by omega) ?_  -- ref.go:119 add[3] t45 1
        refine x_nc rfl rfl trivial rfl ?_  -- ref.go:119 nilCheck t42
        refine x_fld rfl rfl trivial fo_coppiceref06_Disk_5 rfl ?_  -- ref.go:119 fieldAddr[56] t47 .Synced(+5)
        refine x_st1 (l' := [_, _, _, _, _, _]) rfl trivial rfl rfl one_int rfl hw (by repeat (first | with_reducible exact Pick.here | apply Pick.there)) rfl rfl rfl (fun w hw => ?_)  -- ref.go:119 store[3] t48 := t46
        refine xl_nil ?_
        refine x_seq ?_
        refine x_region rfl ?_
        refine x_as rfl rfl trivial rfl ?_  -- ref.go:120 assign 0
        refine xl_nil ?_
        refine x_ret ?_
        exact end1 rfl rfl (by
  unfold Dk.sync; rw [if_neg hon, if_neg h0]
  have hokt := hok.tick h0
  have hoks := hokt.settled fun _ => true
  refine ⟨rfl, rdk_shut (s := s) (wv := .slice none 0 0) (ss := []) ⟨hoks.lo, hoks.hi, hoks.blk, hoks.ws, hoks.alarm, hoks.off, hoks.cnt⟩ rfl ?_⟩
  have h := (hw.bring (As := [row 92 _ _ _ _, both _, blk q _ _, row 5 1 s _ _]) (by repeat (first | exact Bring.nil | (apply Bring.cons; repeat (first | with_reducible exact Pick.here | apply Pick.there))))).tail.tail
  have h := row_nil (Sat.both_in (M := []) h) 92 2
  refine (h.bring (As := [blk q _ _, row 5 1 s _ _]) (by repeat (first | exact Bring.nil | (apply Bring.cons; repeat (first | with_reducible exact Pick.here | apply Pick.there))))).of_eq ?_
  simp [rparts, rcells, Dk.settled, Dk.tick, Dk.img, wcs, wrows, settleL_length])

theorem Dk.Ok.arm (h : D.Ok) {n : Int} (hn : n ≤ 9223372036854775807) : (D.arm n).Ok := by
  unfold Dk.arm
  split
  · rename_i ho
    exact ⟨h.lo, h.hi, h.blk, h.ws, by simp only; omega, by simp [ho], h.cnt⟩
  · exact h
theorem Sat.knows {P : World → Prop} (hw : Sat G L w) (k : Knows L P) : Knows L P := k

theorem ct_ref06_Disk_Arm {n : Int} (hw : Sat G (rdk q D :: L) w) (hn : n ≤ 9223372036854775807) :
    Calls Try.prog 64 #[.pointer (some ⟨q, 0, none⟩), .int .i64 n] w (Ret fun r w' => r = .tuple #[] ∧ Sat G (rdk q (D.arm n) :: L) w') := by
  obtain ⟨hok, s, wv, ss, hss, hw⟩ := rdk_open hw
  have hoka := hok.arm hn
  simp only [rparts, rcells, List.cons_append, List.nil_append] at hw
  refine calls_of_x (args := [_, _]) func_ref06_Disk_Arm rfl nt_ref06_Disk_Arm rfl ?_
  refine x_seq ?_
  refine x_region rfl ?_
  refine x_mv rfl rfl trivial rfl ?_  -- ref.go:125 move t0
  refine x_nc rfl rfl trivial rfl ?_  -- ref.go:125 nilCheck t4
  refine x_fld rfl rfl trivial fo_coppiceref06_Disk_2 rfl ?_  -- ref.go:125 fieldAddr[56] t5 .Power(+2)
  refine x_ld rfl rfl trivial rfl (Loads.blk1 one_bool hw (by repeat (first | with_reducible exact Pick.here | apply Pick.there)) rfl) ?_  -- ref.go:125 load[4] t6
  refine xl_nil ?_
  refine x_cond rfl (fun h1 => ?_) (fun h1 => ?_)
  · -- yes
    refine x_seq ?_
    refine x_region rfl ?_
    refine x_mv rfl rfl trivial rfl ?_  -- ref.go:126 move t0
    refine x_mv rfl rfl trivial rfl ?_  -- ref.go:126 move t1
    refine x_nc rfl rfl trivial rfl ?_  -- ref.go:126 nilCheck t8
    refine x_fld rfl rfl trivial fo_coppiceref06_Disk_3 rfl ?_  -- ref.go:126 fieldAddr[56] t10 .Alarm(+3)
    refine x_st1 (l' := [_, _, _, _, _, _]) rfl trivial rfl rfl one_int rfl hw (by repeat (first | with_reducible exact Pick.here | apply Pick.there)) rfl rfl rfl (fun w hw => ?_)  -- ref.go:126 store[3] t11 := t9
    refine xl_nil ?_
    refine x_seq ?_
    refine x_region rfl ?_
    refine x_mv rfl rfl trivial rfl ?_  -- ref.go:127 move t1
    refine x_lt rfl rfl trivial rfl rfl ?_  -- ref.go:127 lss[3] t12 0
    refine xl_nil ?_
    refine x_if rfl (fun h2 => ?_) (fun h2 => ?_)
    · -- yes
      refine x_region rfl ?_
      refine x_mv rfl rfl trivial rfl ?_  -- ref.go:128 move t0
      refine x_nc rfl rfl trivial rfl ?_  -- ref.go:128 nilCheck t14
      refine x_fld rfl rfl trivial fo_coppiceref06_Disk_3 rfl ?_  -- ref.go:128 fieldAddr[56] t15 .Alarm(+3)
      refine x_st1 (l' := [_, _, _, _, _, _]) rfl trivial rfl rfl one_int rfl hw (by repeat (first | with_reducible exact Pick.here | apply Pick.there)) rfl rfl rfl (fun w hw => ?_)  -- ref.go:128 store[3] t16 := -1
      refine xl_nil ?_
      exact end0 rfl (by
  unfold Dk.arm at hoka ⊢; rw [if_pos h1] at hoka ⊢
  rw [show max n (-1) = -1 by omega] at hoka ⊢
  exact ⟨rfl, rdk_shut hoka hss hw⟩)
    · -- no
      refine x_skip ?_
      exact end0 rfl (by
  unfold Dk.arm at hoka ⊢; rw [if_pos h1] at hoka ⊢
  rw [show max n (-1) = n by omega] at hoka ⊢
  exact ⟨rfl, rdk_shut hoka hss hw⟩)
  · -- no
    refine x_skip ?_
    exact end0 rfl (by unfold Dk.arm; rw [if_neg (by simp [h1])]; exact ⟨rfl, rdk_shut hok hss hw⟩)

theorem ct_ref06_Disk_Off (hw : Sat G (rdk q D :: L) w) :
    Calls Try.prog 65 #[.pointer (some ⟨q, 0, none⟩)] w (Ret fun r w' => r = .tuple #[] ∧ Sat G (rdk q D.failed :: L) w') := by
  obtain ⟨hok, s, wv, ss, hss, hw⟩ := rdk_open hw
  simp only [rparts, rcells, List.cons_append, List.nil_append] at hw
  refine calls_of_x (args := [_]) func_ref06_Disk_Off rfl nt_ref06_Disk_Off rfl ?_
  refine x_seq ?_
  refine x_region rfl ?_
  refine x_mv rfl rfl trivial rfl ?_  -- ref.go:135 move t0
  refine x_nc rfl rfl trivial rfl ?_  -- ref.go:135 nilCheck t2
  refine x_fld rfl rfl trivial fo_coppiceref06_Disk_2 rfl ?_  -- ref.go:135 fieldAddr[56] t3 .Power(+2)
  refine x_st1 (l' := [_, _, _, _, _, _]) rfl trivial rfl rfl one_bool rfl hw (by repeat (first | with_reducible exact Pick.here | apply Pick.there)) rfl rfl rfl (fun w hw => ?_)  -- ref.go:135 store[4] t4 := False
  refine xl_nil ?_
  refine x_region rfl ?_
  refine x_mv rfl rfl trivial rfl ?_  -- ref.go:136 move t0
  refine x_nc rfl rfl trivial rfl ?_  -- ref.go:136 nilCheck t5
  refine x_fld rfl rfl trivial fo_coppiceref06_Disk_3 rfl ?_  -- ref.go:136 fieldAddr[56] t6 .Alarm(+3)
  refine x_st1 (l' := [_, _, _, _, _, _]) rfl trivial rfl rfl one_int rfl hw (by repeat (first | with_reducible exact Pick.here | apply Pick.there)) rfl rfl rfl (fun w hw => ?_)  -- ref.go:136 store[3] t7 := -1
  refine xl_nil ?_
  exact end0 rfl ⟨rfl, rdk_shut (D := D.failed) hok.failed hss hw⟩

theorem ct_ref06_Disk_IsOn (hw : Sat G (rdk q D :: L) w) :
    Calls Try.prog 69 #[.pointer (some ⟨q, 0, none⟩)] w (Ret fun r w' => r = .bool D.on ∧ Sat G (rdk q D :: L) w') := by
  obtain ⟨hok, s, wv, ss, hss, hw⟩ := rdk_open hw
  simp only [rparts, rcells, List.cons_append, List.nil_append] at hw
  refine calls_of_x (args := [_]) func_ref06_Disk_IsOn rfl nt_ref06_Disk_IsOn rfl ?_
  refine x_seq ?_
  refine x_region rfl ?_
  refine x_as rfl rfl trivial rfl ?_  -- ref.go:140 assign False
  refine xl_nil ?_
  refine x_seq ?_
  refine x_region rfl ?_
  refine x_mv rfl rfl trivial rfl ?_  -- ref.go:140 move t0
  refine x_nc rfl rfl trivial rfl ?_  -- ref.go:140 nilCheck t3
  refine x_fld rfl rfl trivial fo_coppiceref06_Disk_2 rfl ?_  -- ref.go:140 fieldAddr[56] t4 .Power(+2)
  refine x_ld rfl rfl trivial rfl (Loads.blk1 one_bool hw (by repeat (first | with_reducible exact Pick.here | apply Pick.there)) rfl) ?_  -- ref.go:140 load[4] t5
  refine x_as rfl rfl trivial rfl ?_  -- ref.go:140 assign t6
  refine xl_nil ?_
  refine x_ret ?_
  exact end1 rfl rfl ⟨rfl, rdk_shut hok hss hw⟩

theorem ct_ref06_Disk_Acts (hw : Sat G (rdk q D :: L) w) :
    Calls Try.prog 70 #[.pointer (some ⟨q, 0, none⟩)] w (Ret fun r w' => r = .tuple #[.int .i64 D.wrote, .int .i64 D.synced] ∧ Sat G (rdk q D :: L) w') := by
  obtain ⟨hok, s, wv, ss, hss, hw⟩ := rdk_open hw
  simp only [rparts, rcells, List.cons_append, List.nil_append] at hw
  refine calls_of_x (args := [_]) func_ref06_Disk_Acts rfl nt_ref06_Disk_Acts rfl ?_
  refine x_seq ?_
  refine x_region rfl ?_
  refine x_as rfl rfl trivial rfl ?_  -- ref.go:167 assign 0
  refine x_as rfl rfl trivial rfl ?_  -- ref.go:167 assign 0
  refine xl_nil ?_
  refine x_seq ?_
  refine x_draw [0, 1, 2, 3, 4, 5, 6, 7, 8, 9] mixed (by kernel_rfl) ?_  -- region 1
  replace hw := hw.drawn (w.drawn + 1)
  refine x_mv rfl rfl trivial rfl ?_  -- ref.go:167 move t0
  refine x_nc rfl rfl trivial rfl ?_  -- ref.go:167 nilCheck t4
  refine x_fld rfl rfl trivial fo_coppiceref06_Disk_4 rfl ?_  -- ref.go:167 fieldAddr[56] t5 .Wrote(+4)
  refine x_ld rfl rfl trivial rfl (Loads.blk1 one_int hw (by repeat (first | with_reducible exact Pick.here | apply Pick.there)) rfl) ?_  -- ref.go:167 load[3] t6
  refine x_mv rfl rfl trivial rfl ?_  -- ref.go:167 move t0
  refine x_nc rfl rfl trivial rfl ?_  -- ref.go:167 nilCheck t8
  refine x_fld rfl rfl trivial fo_coppiceref06_Disk_5 rfl ?_  -- ref.go:167 fieldAddr[56] t9 .Synced(+5)
  refine x_ld rfl rfl trivial rfl (Loads.blk1 one_int hw (by repeat (first | with_reducible exact Pick.here | apply Pick.there)) rfl) ?_  -- ref.go:167 load[3] t10
  refine x_as rfl rfl trivial rfl ?_  -- ref.go:167 assign t7
  refine x_as rfl rfl trivial rfl ?_  -- ref.go:167 assign t11
  refine xl_nil ?_
  refine x_ret ?_
  exact end2 rfl rfl rfl ⟨rfl, rdk_shut hok hss hw⟩

theorem ct_ref06_Disk_On {v : Value} {kl : List Bool} (hw : Sat G (rdk q D :: L) w) (ka : Knows L (SlV v (bools kl))) (hcnt : D.wrote < 1000000000) :
    Calls Try.prog 66 #[.pointer (some ⟨q, 0, none⟩), v] w (Ret fun r w' => r = .tuple #[] ∧ Sat G (rdk q (D.onK kl) :: L) w') := by
  obtain ⟨a, cap, rfl⟩ := ((ka.of (by repeat (first | exact Suf.refl _ | apply Suf.cons))).at hw).form
  rw [bools_length] at ka ⊢
  obtain ⟨hok, s, wv, ss, hss, hw⟩ := rdk_open hw
  have hoko := hok.onK kl
  simp only [rparts, rcells, List.cons_append, List.nil_append] at hw
  have hwn := hok.cnt
  have hhi := hok.hi
  refine calls_of_x (args := [_, _]) func_ref06_Disk_On rfl nt_ref06_Disk_On rfl ?_
  refine x_seq ?_
  refine x_seq ?_
  refine x_region rfl ?_
  refine x_mv rfl rfl trivial rfl ?_  -- ref.go:144 move t0
  refine x_nc rfl rfl trivial rfl ?_  -- ref.go:144 nilCheck t5
  refine x_fld rfl rfl trivial fo_coppiceref06_Disk_2 rfl ?_  -- ref.go:144 fieldAddr[56] t6 .Power(+2)
  refine x_ld rfl rfl trivial rfl (Loads.blk1 one_bool hw (by repeat (first | with_reducible exact Pick.here | apply Pick.there)) rfl) ?_  -- ref.go:144 load[4] t7
  refine xl_nil ?_
  refine x_cond rfl (fun h1 => ?_) (fun h1 => ?_)
  · -- yes
    refine x_ret ?_
    exact end0 rfl (by unfold Dk.onK; rw [if_pos h1]; exact ⟨rfl, rdk_shut hok hss hw⟩)
  · -- no
    have hal := hok.off h1
    have hDo : D.onK kl = ⟨settleL (keepQ kl) D.ws 0 D.lasts, [], true, D.alarm, D.wrote, D.synced⟩ := by unfold Dk.onK; rw [if_neg (by simp [h1])]
    rw [hDo] at hoko ⊢
    rw [hal] at hoko ⊢
    refine x_skip ?_
    refine x_seq ?_
    refine x_seq ?_
    refine x_region rfl ?_
    refine x_as rfl rfl trivial rfl ?_  -- ref.go:147 assign 0
    refine xl_nil ?_
    refine x_block ?_
    refine x_loop (fun m e w => ∃ k : Nat, k ≤ D.ws.length ∧ k ≤ kl.length ∧ m = D.ws.length - k ∧ e = [(0, .pointer (some ⟨q, 0, none⟩)), (1, .slice a kl.length cap), (4, .int .i64 k)] ∧ Sat G (blk q [s, wv, .bool D.on, .int .i64 D.alarm, .int .i64 D.wrote, .int .i64 D.synced] 56 :: row 5 1 s (512 * D.lasts.length) (bys (settleL (keepQ kl) (D.ws.take k) 0 D.lasts).flatten) :: row 92 2 wv D.ws.length (wcs ss D.ws) :: both (wrows ss D.ws) :: L) w)
      (m := D.ws.length) (e₀ := [(0, .pointer (some ⟨q, 0, none⟩)), (1, .slice a kl.length cap), (4, .int .i64 (0 : Nat))]) (by repeat (first | exact Sub.nil _ | refine Sub.cons rfl ?_))
      ⟨0, Nat.zero_le _, Nat.zero_le _, rfl, rfl, hw⟩ ?_
    rintro m e w ⟨k, hk, hkl, rfl, rfl, hw⟩
    obtain ⟨aw, cw, rfl⟩ := row_form (hw.pick (A := row 92 _ _ _ _) (by repeat (first | with_reducible exact Pick.here | apply Pick.there)))
    refine x_seq ?_
    refine x_seq ?_
    refine x_region rfl ?_
    refine x_mv rfl rfl trivial rfl ?_  -- ref.go:147 move t4
    refine x_mv rfl rfl trivial rfl ?_  -- ref.go:147 move t0
    refine x_nc rfl rfl trivial rfl ?_  -- ref.go:147 nilCheck t10
    refine x_fld rfl rfl trivial fo_coppiceref06_Disk_1 rfl ?_  -- ref.go:147 fieldAddr[56] t11 .Writes(+1)
    refine x_ld rfl rfl trivial rfl (Loads.blk1 one_sl_coppiceref06_Written hw (by repeat (first | with_reducible exact Pick.here | apply Pick.there)) rfl) ?_  -- ref.go:147 load[54] t12
    refine x_len rfl rfl trivial rfl U_sl_coppiceref06_Written rfl ?_  -- ref.go:147 len(t13)
    refine x_lt rfl rfl trivial rfl rfl ?_  -- ref.go:147 lss[3] t9 t14
    refine x_mv rfl rfl trivial rfl ?_  -- ref.go:147 move t15
    refine xl_split (d := 16) rfl (fun h2 => ?_) (fun h2 => ?_)
    · -- yes
      refine x_mv rfl rfl ⟨_, rfl, rfl⟩ rfl ?_  -- ref.go:147 move t4
      refine x_mv rfl rfl ⟨_, rfl, rfl⟩ rfl ?_  -- ref.go:147 move t1
      refine x_len rfl rfl ⟨_, rfl, rfl⟩ rfl U_sl_bool rfl ?_  -- ref.go:147 len(t18)
      refine x_lt rfl rfl ⟨_, rfl, rfl⟩ rfl rfl ?_  -- ref.go:147 lss[3] t17 t19
      refine x_pickT rfl rfl trivial rfl rfl rfl ?_  -- ref.go:147 pick t16 ? t20 : False
      refine xl_nil ?_
      refine x_if rfl (fun h3 => ?_) (fun h3 => ?_)
      · -- yes
        have hk' : k < D.ws.length := by omega
        have hk2' : k < kl.length := by omega
        obtain ⟨⟨i, c⟩, hx⟩ : ∃ x, D.ws[k]? = some x := ⟨_, List.getElem?_eq_getElem hk'⟩
        have hwx := hok.ws _ (List.mem_of_getElem? hx)
        simp only at hwx
        obtain ⟨b2, o2, rfl⟩ := ((ka.of (by repeat (first | exact Suf.refl _ | apply Suf.cons))).at hw).nn (by rw [bools_length]; omega)
        have hget : (bools kl)[(k : Int).toNat]? = some (.bool (kl.getD k false)) := by simp [bools, hk2']
        have hBl := settleL_length (keepQ kl) (D.ws.take k) 0 D.lasts
        have hBb := settleL_blk (keepQ kl) (D.ws.take k) 0 D.lasts (fun x hx => (hok.ws x (List.mem_of_mem_take hx)).2) hok.blk
        have htl : (D.ws.take k).length = k := by rw [List.length_take]; omega
        have hsn : settleL (keepQ kl) (D.ws.take (k + 1)) 0 D.lasts = if keepQ kl k then (settleL (keepQ kl) (D.ws.take k) 0 D.lasts).set i c else settleL (keepQ kl) (D.ws.take k) 0 D.lasts := by rw [List.take_add_one, hx]; simp only [Option.toList]; rw [settleL_snoc, htl, Nat.zero_add]
        refine x_skip ?_
        refine x_seq ?_
        refine x_block ?_
        refine x_seq ?_
        refine x_region rfl ?_
        refine x_mv rfl rfl trivial rfl ?_  -- ref.go:148 move t1
        refine x_mv rfl rfl trivial rfl ?_  -- ref.go:148 move t4
        refine x_idx1 rfl rfl trivial U_sl_bool sz_bool rfl rfl ⟨by omega, by omega⟩ ?_  -- ref.go:148 indexAddr[41] t24 [t25] 
        refine x_ld rfl rfl trivial rfl (Loads.one one_bool (((ka.of (by repeat (first | exact Suf.refl _ | apply Suf.cons))).at hw).at hget)) ?_  -- ref.go:148 load[4] t26
        refine xl_nil ?_
        refine x_cond rfl (fun h4 => ?_) (fun h4 => ?_)
        · -- yes
          rw [if_pos (by simpa [keepQ] using h4)] at hsn
          obtain ⟨bw, capw, cur, bb, ob, cb, hwv, hcc, hcm, hcl, hw, hc1, hc2, hkn⟩ := rw_open hss hx hwx.2 hw (R := _) (by repeat (first | with_reducible exact Pick.here | apply Pick.there)) (R' := _) (by repeat (first | with_reducible exact Pick.here | apply Pick.there))
          cases hwv
          refine x_draw [0, 1, 2, 3, 4, 5, 6, 7, 8, 9, 10, 11, 12, 13, 14, 15, 16, 17] mixed (by kernel_rfl) ?_  -- region 5
          replace hw := hw.drawn (w.drawn + 1)
          refine x_mv rfl rfl trivial rfl ?_  -- ref.go:149 move t0
          refine x_mv rfl rfl trivial rfl ?_  -- ref.go:149 move t0
          refine x_nc rfl rfl trivial rfl ?_  -- ref.go:149 nilCheck t29
          refine x_fld rfl rfl trivial fo_coppiceref06_Disk_1 rfl ?_  -- ref.go:149 fieldAddr[56] t30 .Writes(+1)
          refine x_ld rfl rfl trivial rfl (Loads.blk1 one_sl_coppiceref06_Written hw (by repeat (first | with_reducible exact Pick.here | apply Pick.there)) rfl) ?_  -- ref.go:149 load[54] t31
          refine x_mv rfl rfl trivial rfl ?_  -- ref.go:149 move t4
          refine x_idx rfl rfl trivial U_sl_coppiceref06_Written sz_coppiceref06_Written rfl rfl ⟨by omega, by omega⟩ ?_  -- ref.go:149 indexAddr[54] t32 [t33] 
          refine x_fldk rfl rfl trivial fo_coppiceref06_Written_0 rfl ?_  -- ref.go:149 fieldAddr[92] t34 .Block(+0)
          refine x_ld rfl rfl trivial rfl (Loads.blk1 one_int hw (by repeat (first | with_reducible exact Pick.here | apply Pick.there)) hc1) ?_  -- ref.go:149 load[3] t35
          refine x_mv rfl rfl trivial rfl ?_  -- ref.go:149 move t0
          refine x_nc rfl rfl trivial rfl ?_  -- ref.go:149 nilCheck t37
          refine x_fld rfl rfl trivial fo_coppiceref06_Disk_1 rfl ?_  -- ref.go:149 fieldAddr[56] t38 .Writes(+1)
          refine x_ld rfl rfl trivial rfl (Loads.blk1 one_sl_coppiceref06_Written hw (by repeat (first | with_reducible exact Pick.here | apply Pick.there)) rfl) ?_  -- ref.go:149 load[54] t39
          refine x_mv rfl rfl trivial rfl ?_  -- ref.go:149 move t4
          refine x_idx rfl rfl trivial U_sl_coppiceref06_Written sz_coppiceref06_Written rfl rfl ⟨by omega, by omega⟩ ?_  -- ref.go:149 indexAddr[54] t40 [t41] 
          refine x_fldk rfl rfl trivial fo_coppiceref06_Written_1 rfl ?_  -- ref.go:149 fieldAddr[92] t42 .Bytes(+1)
          refine x_ld rfl rfl trivial rfl (Loads.blk1 one_sl_uint8 hw (by repeat (first | with_reducible exact Pick.here | apply Pick.there)) hc2) ?_  -- ref.go:149 load[23] t43
          refine x_call rfl rfl trivial cal_ref06_Disk_lay rfl (ct_ref06_Disk_lay (n := 512 * D.lasts.length) (i := i) (c := c) (hw.bring (As := [blk q _ _, row 5 1 s _ _]) (by repeat (first | exact Bring.nil | (apply Bring.cons; repeat (first | with_reducible exact Pick.here | apply Pick.there))))) ((hkn.head _).pick (by repeat (first | with_reducible exact Pick.here | apply Pick.there))) hwx.2 hBb (by rw [hBl]) (by rw [hBl]; exact hwx.1) (by rw [hBl]; exact hhi)) (by kernel_rfl) (fun w v45 hv => ?_)  -- ref.go:149 call f61 (*coppice/coppiceref06.Disk).lay(t28, t36, t44)
          obtain ⟨-, hw⟩ := hv
          rw [← hsn] at hw
          have hw := row_mk (z := 2) (m := D.ws.length) (hw.pick (A := blk bw _ _) (by repeat (first | with_reducible exact Pick.here | apply Pick.there))) (wcs_length hss) hcc hcm hcl
          refine xl_nil ?_
          refine x_region rfl ?_
          refine x_mv rfl rfl trivial rfl ?_  -- ref.go:147 move t4
          refine x_addi rfl rfl trivial rfl rfl (by omega) ?_  -- ref.go:147 add[3] t22 1
          refine x_as rfl rfl trivial rfl ?_  -- ref.go:147 assign t23
          refine xl_nil ?_
          exact ⟨D.ws.length - (k + 1), by omega, [(0, _), (1, _), (4, .int .i64 (k + 1 : Nat))], (by repeat (first | exact Sub.nil _ | refine Sub.cons rfl ?_)), k + 1, by omega, by omega, rfl, rfl, hw.bring (As := [blk q _ _, row 5 1 s _ _, row _ _ _ _ _, both _]) (by repeat (first | exact Bring.nil | (apply Bring.cons; repeat (first | with_reducible exact Pick.here | apply Pick.there))))⟩
        · -- no
          rw [if_neg (by simpa [keepQ] using h4)] at hsn
          rw [← hsn] at hw
          refine x_skip ?_
          refine x_region rfl ?_
          refine x_mv rfl rfl trivial rfl ?_  -- ref.go:147 move t4
          refine x_addi rfl rfl trivial rfl rfl (by omega) ?_  -- ref.go:147 add[3] t22 1
          refine x_as rfl rfl trivial rfl ?_  -- ref.go:147 assign t23
          refine xl_nil ?_
          exact ⟨D.ws.length - (k + 1), by omega, [(0, _), (1, _), (4, .int .i64 (k + 1 : Nat))], (by repeat (first | exact Sub.nil _ | refine Sub.cons rfl ?_)), k + 1, by omega, by omega, rfl, rfl, hw⟩
      · -- no
        refine x_exit rfl ?_  -- exit 0
        refine x_seq ?_
        refine x_region rfl ?_
        refine x_mv rfl rfl trivial rfl ?_  -- ref.go:152 move t0
        refine x_nc rfl rfl trivial rfl ?_  -- ref.go:152 nilCheck t46
        refine x_fld rfl rfl trivial fo_coppiceref06_Disk_1 rfl ?_  -- ref.go:152 fieldAddr[56] t47 .Writes(+1)
        refine x_st1 (l' := [_, _, _, _, _, _]) rfl trivial rfl rfl one_sl_coppiceref06_Written rfl hw (by repeat (first | with_reducible exact Pick.here | apply Pick.there)) rfl rfl rfl (fun w hw => ?_)  -- ref.go:152 store[54] t48 := {'nilslice': 1}
        refine xl_nil ?_
        refine x_seq ?_
        refine x_region rfl ?_
        refine x_mv rfl rfl trivial rfl ?_  -- ref.go:153 move t0
        refine x_nc rfl rfl trivial rfl ?_  -- ref.go:153 nilCheck t49
        refine x_fld rfl rfl trivial fo_coppiceref06_Disk_2 rfl ?_  -- ref.go:153 fieldAddr[56] t50 .Power(+2)
        refine x_st1 (l' := [_, _, _, _, _, _]) rfl trivial rfl rfl one_bool rfl hw (by repeat (first | with_reducible exact Pick.here | apply Pick.there)) rfl rfl rfl (fun w hw => ?_)  -- ref.go:153 store[4] t51 := True
        refine xl_nil ?_
        refine x_region rfl ?_
        refine x_mv rfl rfl trivial rfl ?_  -- ref.go:154 move t0
        refine x_nc rfl rfl trivial rfl ?_  -- ref.go:154 nilCheck t52
        refine x_fld rfl rfl trivial fo_coppiceref06_Disk_3 rfl ?_  -- ref.go:154 fieldAddr[56] t53 .Alarm(+3)
        refine x_st1 (l' := [_, _, _, _, _, _]) rfl trivial rfl rfl one_int rfl hw (by repeat (first | with_reducible exact Pick.here | apply Pick.there)) rfl rfl rfl (fun w hw => ?_)  -- ref.go:154 store[3] t54 := -1
        refine xl_nil ?_
        exact end0 rfl (by
  rw [show settleL (keepQ kl) (D.ws.take k) 0 D.lasts = settleL (keepQ kl) D.ws 0 D.lasts from settle_prefix kl D.ws D.lasts (by omega)] at hw
  refine ⟨rfl, rdk_shut (s := s) (wv := .slice none 0 0) (ss := []) hoko rfl ?_⟩
  have h := (hw.bring (As := [row 92 _ _ _ _, both _, blk q _ _, row 5 1 s _ _]) (by repeat (first | exact Bring.nil | (apply Bring.cons; repeat (first | with_reducible exact Pick.here | apply Pick.there))))).tail.tail
  have h := row_nil (Sat.both_in (M := []) h) 92 2
  refine (h.bring (As := [blk q _ _, row 5 1 s _ _]) (by repeat (first | exact Bring.nil | (apply Bring.cons; repeat (first | with_reducible exact Pick.here | apply Pick.there))))).of_eq ?_
  simp [rparts, rcells, Dk.img, wcs, wrows, settleL_length])
    · -- no
      refine xl_no rfl rfl rfl rfl rfl rfl ?_  -- passed over: move t4
      refine xl_no rfl rfl rfl rfl rfl rfl ?_  -- passed over: move t1
      refine xl_no rfl rfl rfl rfl rfl rfl ?_  -- passed over: len(t18)
      refine xl_no rfl rfl rfl rfl rfl rfl ?_  -- passed over: lss[3] t17 t19
      refine x_pickF rfl rfl trivial rfl rfl rfl ?_  -- ref.go:147 pick t16 ? t20 : False
      refine xl_nil ?_
      refine x_cond_false rfl ?_
      refine x_exit rfl ?_  -- exit 0
      refine x_seq ?_
      refine x_region rfl ?_
      refine x_mv rfl rfl trivial rfl ?_  -- ref.go:152 move t0
      refine x_nc rfl rfl trivial rfl ?_  -- ref.go:152 nilCheck t46
      refine x_fld rfl rfl trivial fo_coppiceref06_Disk_1 rfl ?_  -- ref.go:152 fieldAddr[56] t47 .Writes(+1)
      refine x_st1 (l' := [_, _, _, _, _, _]) rfl trivial rfl rfl one_sl_coppiceref06_Written rfl hw (by repeat (first | with_reducible exact Pick.here | apply Pick.there)) rfl rfl rfl (fun w hw => ?_)  -- ref.go:152 store[54] t48 := {'nilslice': 1}
      refine xl_nil ?_
      refine x_seq ?_
      refine x_region rfl ?_
      refine x_mv rfl rfl trivial rfl ?_  -- ref.go:153 move t0
      refine x_nc rfl rfl trivial rfl ?_  -- ref.go:153 nilCheck t49
      refine x_fld rfl rfl trivial fo_coppiceref06_Disk_2 rfl ?_  -- ref.go:153 fieldAddr[56] t50 .Power(+2)
      refine x_st1 (l' := [_, _, _, _, _, _]) rfl trivial rfl rfl one_bool rfl hw (by repeat (first | with_reducible exact Pick.here | apply Pick.there)) rfl rfl rfl (fun w hw => ?_)  -- ref.go:153 store[4] t51 := True
      refine xl_nil ?_
      refine x_region rfl ?_
      refine x_mv rfl rfl trivial rfl ?_  -- ref.go:154 move t0
      refine x_nc rfl rfl trivial rfl ?_  -- ref.go:154 nilCheck t52
      refine x_fld rfl rfl trivial fo_coppiceref06_Disk_3 rfl ?_  -- ref.go:154 fieldAddr[56] t53 .Alarm(+3)
      refine x_st1 (l' := [_, _, _, _, _, _]) rfl trivial rfl rfl one_int rfl hw (by repeat (first | with_reducible exact Pick.here | apply Pick.there)) rfl rfl rfl (fun w hw => ?_)  -- ref.go:154 store[3] t54 := -1
      refine xl_nil ?_
      exact end0 rfl (by
  rw [show settleL (keepQ kl) (D.ws.take k) 0 D.lasts = settleL (keepQ kl) D.ws 0 D.lasts from settle_prefix kl D.ws D.lasts (by omega)] at hw
  refine ⟨rfl, rdk_shut (s := s) (wv := .slice none 0 0) (ss := []) hoko rfl ?_⟩
  have h := (hw.bring (As := [row 92 _ _ _ _, both _, blk q _ _, row 5 1 s _ _]) (by repeat (first | exact Bring.nil | (apply Bring.cons; repeat (first | with_reducible exact Pick.here | apply Pick.there))))).tail.tail
  have h := row_nil (Sat.both_in (M := []) h) 92 2
  refine (h.bring (As := [blk q _ _, row 5 1 s _ _]) (by repeat (first | exact Bring.nil | (apply Bring.cons; repeat (first | with_reducible exact Pick.here | apply Pick.there))))).of_eq ?_
  simp [rparts, rcells, Dk.img, wcs, wrows, settleL_length])

/-- a part of a row of bytes -/
theorem SlB.sub {a : Addr} {n cap : Nat} {l : Bys} {w : World} (h : SlB (.slice (some ⟨a.block, a.off, none⟩) n cap) l w) {lo m : Nat} (hb : lo + m ≤ l.length) : SlB (.slice (some ⟨a.block, a.off + lo, none⟩) m (cap - lo)) ((l.drop lo).take m) w := by
  rcases h with ⟨⟨x, hx⟩, rfl⟩ | ⟨b', o', cap', hx, h1, h2⟩
  · cases hx
    have : m = 0 ∧ lo = 0 := by simp at hb; omega
    obtain ⟨rfl, rfl⟩ := this
    exact .inr ⟨a.block, a.off + 0, _, rfl, Nat.zero_le _, Rd.nil⟩
  · cases hx
    have hl : ((l.drop lo).take m).length = m := by rw [List.length_take, List.length_drop]; omega
    refine .inr ⟨a.block, a.off + lo, cap - lo, by rw [hl], by rw [hl]; omega, ?_⟩
    rw [bys_take, bys_drop]
    exact (h2.drop lo).take m

theorem ct_ref06_Disk_Shows {i : Nat} (hw : Sat G (rdk q D :: L) w) (hi : i < D.lasts.length) (hcnt : D.wrote < 1000000000) :
    Calls Try.prog 62 #[.pointer (some ⟨q, 0, none⟩), .int .i64 i] w (Ret fun r w' => Sat G (row 5 1 r 512 (bys (D.shows i)) :: rdk q D :: L) w') := by
  obtain ⟨hok, s, wv, ss, hss, hw⟩ := rdk_open hw
  simp only [rparts, rcells, List.cons_append, List.nil_append] at hw
  have hwn := hok.cnt
  have hhi := hok.hi
  have hig := hok.img
  obtain ⟨aw, cw, rfl⟩ := row_form (hw.pick (A := row 92 _ _ _ _) (by repeat (first | with_reducible exact Pick.here | apply Pick.there)))
  refine calls_of_x (args := [_, _]) func_ref06_Disk_Shows rfl nt_ref06_Disk_Shows rfl ?_
  refine x_seq ?_
  refine x_region rfl ?_
  refine x_as rfl rfl trivial rfl ?_  -- ref.go:48 assign {'nilslice': 1}
  refine xl_nil ?_
  refine x_seq ?_
  refine x_seq ?_
  refine x_region rfl ?_
  refine x_mv rfl rfl trivial rfl ?_  -- ref.go:49 move t0
  refine x_nc rfl rfl trivial rfl ?_  -- ref.go:49 nilCheck t6
  refine x_fld rfl rfl trivial fo_coppiceref06_Disk_1 rfl ?_  -- ref.go:49 fieldAddr[56] t7 .Writes(+1)
  refine x_ld rfl rfl trivial rfl (Loads.blk1 one_sl_coppiceref06_Written hw (by repeat (first | with_reducible exact Pick.here | apply Pick.there)) rfl) ?_  -- ref.go:49 load[54] t8
  refine x_len rfl rfl trivial rfl U_sl_coppiceref06_Written rfl ?_  -- ref.go:49 len(t9)
  refine x_subi rfl rfl trivial rfl rfl (by omega) ?_  -- ref.go:49 sub[3] t10 1
  refine x_as rfl rfl trivial rfl ?_  -- ref.go:49 assign t11
  refine xl_nil ?_
  refine x_block ?_
  refine x_loop (fun m e w => ∃ k : Nat, k ≤ D.ws.length ∧ m = k ∧ e = [(0, .pointer (some ⟨q, 0, none⟩)), (1, .int .i64 i), (5, .int .i64 ((k : Int) - 1))] ∧ lastOf (D.ws.drop k) i = none ∧ Sat G (blk q (rcells s (.slice aw D.ws.length cw) D) 56 :: row 5 1 s (512 * D.lasts.length) (bys D.img) :: row 92 2 (.slice aw D.ws.length cw) D.ws.length (wcs ss D.ws) :: both (wrows ss D.ws) :: L) w)
    (m := D.ws.length) (e₀ := [(0, .pointer (some ⟨q, 0, none⟩)), (1, .int .i64 i), (5, .int .i64 ((D.ws.length : Int) - 1))]) (by repeat (first | exact Sub.nil _ | refine Sub.cons rfl ?_))
    ⟨D.ws.length, Nat.le_refl _, rfl, rfl, by rw [List.drop_length]; rfl, hw⟩ ?_
  rintro m e w ⟨k, hk, hmk, rfl, hlo, hw⟩
  refine x_seq ?_
  refine x_seq ?_
  refine x_region rfl ?_
  refine x_mv rfl rfl trivial rfl ?_  -- ref.go:49 move t5
  refine x_ge rfl rfl trivial rfl rfl ?_  -- ref.go:49 geq[3] t12 0
  refine xl_nil ?_
  refine x_if rfl (fun h1 => ?_) (fun h1 => ?_)
  · -- yes
    obtain ⟨j, rfl⟩ : ∃ j, k = j + 1 := ⟨k - 1, by omega⟩
    rw [show ((j + 1 : Nat) : Int) - 1 = (j : Int) by omega]
    have hk' : j < D.ws.length := by omega
    obtain ⟨⟨i', c⟩, hx⟩ : ∃ x, D.ws[j]? = some x := ⟨_, List.getElem?_eq_getElem hk'⟩
    have hwx := hok.ws _ (List.mem_of_getElem? hx)
    simp only at hwx
    have hdr : D.ws.drop j = (i', c) :: D.ws.drop (j + 1) := by
      rw [List.drop_eq_getElem_cons hk']; congr 1
      rw [List.getElem?_eq_getElem hk'] at hx; exact Option.some.inj hx
    obtain ⟨bw, capw, cur, bb, ob, cb, hwv, hcc, hcm, hcl, hw, hc1, hc2, hkn⟩ := rw_open hss hx hwx.2 hw (R := _) (by repeat (first | with_reducible exact Pick.here | apply Pick.there)) (R' := _) (by repeat (first | with_reducible exact Pick.here | apply Pick.there))
    cases hwv
    simp only [rcells] at hw
    refine x_skip ?_
    refine x_seq ?_
    refine x_block ?_
    refine x_seq ?_
    refine x_region rfl ?_
    refine x_mv rfl rfl trivial rfl ?_  -- ref.go:50 move t0
    refine x_nc rfl rfl trivial rfl ?_  -- ref.go:50 nilCheck t16
    refine x_fld rfl rfl trivial fo_coppiceref06_Disk_1 rfl ?_  -- ref.go:50 fieldAddr[56] t17 .Writes(+1)
    refine x_ld rfl rfl trivial rfl (Loads.blk1 one_sl_coppiceref06_Written hw (by repeat (first | with_reducible exact Pick.here | apply Pick.there)) rfl) ?_  -- ref.go:50 load[54] t18
    refine x_mv rfl rfl trivial rfl ?_  -- ref.go:50 move t5
    refine x_idx rfl rfl trivial U_sl_coppiceref06_Written sz_coppiceref06_Written rfl rfl ⟨by omega, by omega⟩ ?_  -- ref.go:50 indexAddr[54] t19 [t20] 
    refine x_fldk rfl rfl trivial fo_coppiceref06_Written_0 rfl ?_  -- ref.go:50 fieldAddr[92] t21 .Block(+0)
    refine x_ld rfl rfl trivial rfl (Loads.blk1 one_int hw (by repeat (first | with_reducible exact Pick.here | apply Pick.there)) hc1) ?_  -- ref.go:50 load[3] t22
    refine x_mv rfl rfl trivial rfl ?_  -- ref.go:50 move t1
    refine x_eq rfl rfl trivial rfl rfl rfl ?_  -- ref.go:50 eql[3] t23 t24
    refine xl_nil ?_
    refine x_if rfl (fun h2 => ?_) (fun h2 => ?_)
    · -- yes
      have h2' : i' = i := by omega
      subst h2'
      refine x_seq ?_
      refine x_region rfl ?_
      refine x_mv rfl rfl trivial rfl ?_  -- ref.go:51 move t0
      refine x_nc rfl rfl trivial rfl ?_  -- ref.go:51 nilCheck t26
      refine x_fld rfl rfl trivial fo_coppiceref06_Disk_1 rfl ?_  -- ref.go:51 fieldAddr[56] t27 .Writes(+1)
      refine x_ld rfl rfl trivial rfl (Loads.blk1 one_sl_coppiceref06_Written hw (by repeat (first | with_reducible exact Pick.here | apply Pick.there)) rfl) ?_  -- ref.go:51 load[54] t28
      refine x_mv rfl rfl trivial rfl ?_  -- ref.go:51 move t5
      refine x_idx rfl rfl trivial U_sl_coppiceref06_Written sz_coppiceref06_Written rfl rfl ⟨by omega, by omega⟩ ?_  -- ref.go:51 indexAddr[54] t29 [t30] 
      refine x_fldk rfl rfl trivial fo_coppiceref06_Written_1 rfl ?_  -- ref.go:51 fieldAddr[92] t31 .Bytes(+1)
      refine x_ld rfl rfl trivial rfl (Loads.blk1 one_sl_uint8 hw (by repeat (first | with_reducible exact Pick.here | apply Pick.there)) hc2) ?_  -- ref.go:51 load[23] t32
      refine x_call rfl rfl trivial cal_ref00_CopyBytes rfl (ct_ref00_CopyBytes (l := c) hw ((hkn.head _).pick (by repeat (first | with_reducible exact Pick.here | apply Pick.there))) (by omega)) rfl (fun w v34 hv => ?_)  -- ref.go:51 call f15 coppice/coppiceref00.CopyBytes(t33)
      refine x_as rfl rfl trivial rfl ?_  -- ref.go:51 assign t34
      refine xl_nil ?_
      refine x_ret ?_
      exact end1 rfl rfl (by
  have hw : Sat G (row 5 1 v34 c.length (bys c) :: _) w := hv
  rw [hwx.2] at hw
  have hsh : D.shows i' = c := by
    unfold Dk.shows
    have : lastOf D.ws i' = some c := by
      have h3 : ∀ (ws : List (Nat × Bys)) (j : Nat), lastOf (ws.drop j) i' = some c → lastOf ws i' = some c := fun ws => by
        induction ws with
        | nil => intro j h; simpa using h
        | cons x r ih =>
          intro j h
          cases j with
          | zero => simpa using h
          | succ j =>
            have := ih j (by simpa using h)
            obtain ⟨a, b⟩ := x
            simp [lastOf, this]
      refine h3 D.ws j ?_
      rw [hdr]; simp [lastOf, hlo]
    rw [this]; rfl
  rw [hsh]
  have hw := row_mk (z := 2) (m := D.ws.length) (hw.pick (A := blk bw _ _) (by repeat (first | with_reducible exact Pick.here | apply Pick.there))) (wcs_length hss) hcc hcm hcl
  have hw := hw.bring (As := [blk q _ _, row 5 1 s _ _, row 92 _ _ _ _, both _, row 5 1 v34 _ _]) (by repeat (first | exact Bring.nil | (apply Bring.cons; repeat (first | with_reducible exact Pick.here | apply Pick.there))))
  exact (rdk_shut (s := s) hok hss hw).pick (by repeat (first | with_reducible exact Pick.here | apply Pick.there)))
    · -- no
      refine x_skip ?_
      refine x_region rfl ?_
      refine x_mv rfl rfl trivial rfl ?_  -- ref.go:49 move t5
      refine x_subi rfl rfl trivial rfl rfl (by omega) ?_  -- ref.go:49 sub[3] t14 1
      refine x_as rfl rfl trivial rfl ?_  -- ref.go:49 assign t15
      refine xl_nil ?_
      exact ⟨j, by omega, [(0, _), (1, _), (5, _)], (by repeat (first | exact Sub.nil _ | refine Sub.cons rfl ?_)), j, by omega, rfl, rfl, (by rw [hdr]; simp only [lastOf, hlo]; rw [if_neg (by omega)]), (row_mk (z := 2) (m := D.ws.length) hw (wcs_length hss) hcc hcm hcl).bring (As := [blk q _ _, row 5 1 s _ _, row 92 _ _ _ _, both _]) (by repeat (first | exact Bring.nil | (apply Bring.cons; repeat (first | with_reducible exact Pick.here | apply Pick.there))))⟩
  · -- no
    have hk0 : k = 0 := by omega
    subst hk0
    simp only [rcells, List.drop_zero] at hw hlo
    have hkr := hw.knows (P := SlB s D.img) (rowB (n := 512 * D.lasts.length) hig (by repeat (first | with_reducible exact Pick.here | apply Pick.there)))
    obtain ⟨as', cs, rfl⟩ := (hkr.at hw).form
    obtain ⟨bs, os, rfl⟩ := (hkr.at hw).nn (by omega)
    have hcs := (hkr.at hw).cap
    have hsub := hkr.mono fun w h => SlB.sub (a := ⟨bs, os, none⟩) h (lo := i * 512) (m := 512) (by omega)
    have hch : ((D.img.drop (i * 512)).take 512) = D.shows i := by
      have h := chunk_flat D.lasts i hi hok.blk
      unfold chunk at h
      rw [Nat.mul_comm]
      unfold Dk.img
      rw [h]
      unfold Dk.shows blkAt
      rw [hlo]
      simp [hi]
    rw [hch] at hsub
    refine x_exit rfl ?_  -- exit 0
    refine x_seq ?_
    refine x_region rfl ?_
    refine x_mv rfl rfl trivial rfl ?_  -- ref.go:54 move t0
    refine x_nc rfl rfl trivial rfl ?_  -- ref.go:54 nilCheck t35
    refine x_fld rfl rfl trivial fo_coppiceref06_Disk_0 rfl ?_  -- ref.go:54 fieldAddr[56] t36 .Lasts(+0)
    refine x_ld rfl rfl trivial rfl (Loads.blk1 one_sl_uint8 hw (by repeat (first | with_reducible exact Pick.here | apply Pick.there)) rfl) ?_  -- ref.go:54 load[23] t37
    refine x_mv rfl rfl trivial rfl ?_  -- ref.go:54 move t1
    refine x_muli rfl rfl trivial rfl rfl (by omega) ?_  -- ref.go:54 mul[3] t39 512
    refine x_mv rfl rfl trivial rfl ?_  -- ref.go:54 move t1
    refine x_addi rfl rfl trivial rfl rfl (by omega) ?_  -- ref.go:54 add[3] t41 1
    refine x_muli rfl rfl trivial rfl rfl (by omega) ?_  -- ref.go:54 mul[3] t42 512
    refine x_cut rfl rfl trivial U_sl_uint8 sz_uint8 rfl rfl rfl ⟨by omega, by omega, by omega⟩ (by omega) ?_  -- ref.go:54 slice[23] t38 [t40:t43:-]
    rw [show os + ((i : Int) * 512).toNat * 1 = os + i * 512 by omega, show (((i : Int) + 1) * 512).toNat - ((i : Int) * 512).toNat = 512 by omega, show cs - ((i : Int) * 512).toNat = cs - i * 512 by omega]
    refine x_call rfl rfl trivial cal_ref00_CopyBytes rfl (ct_ref00_CopyBytes (l := D.shows i) hw hsub (by rw [shows_length hok]; decide)) rfl (fun w v45 hv => ?_)  -- ref.go:54 call f15 coppice/coppiceref00.CopyBytes(t44)
    refine x_as rfl rfl trivial rfl ?_  -- ref.go:54 assign t45
    refine xl_nil ?_
    refine x_ret ?_
    exact end1 rfl rfl (by
  have hw : Sat G (row 5 1 v45 (D.shows i).length (bys (D.shows i)) :: _) w := hv
  rw [shows_length hok] at hw
  have hw := hw.bring (As := [blk q _ _, row 5 1 (.slice (some ⟨bs, os, none⟩) _ _) _ _, row 92 _ _ _ _, both _, row 5 1 v45 _ _]) (by repeat (first | exact Bring.nil | (apply Bring.cons; repeat (first | with_reducible exact Pick.here | apply Pick.there))))
  exact (rdk_shut hok hss hw).pick (by repeat (first | with_reducible exact Pick.here | apply Pick.there)))

theorem ct_ref06_Disk_Read {i : Int} (hw : Sat G (rdk q D :: L) w) (hcnt : D.wrote < 1000000000) : Calls Try.prog 41 #[.pointer (some ⟨q, 0, none⟩), .int .i64 i] w (Ret fun v w' =>
    (D.on = false ∧ v = .tuple #[.slice none 0 0, .int .i64 17] ∧ Sat G (rdk q D :: L) w') ∨
    (D.on = true ∧ ¬ (0 ≤ i ∧ i < D.lasts.length) ∧ v = .tuple #[.slice none 0 0, .int .i64 16] ∧ Sat G (rdk q D :: L) w') ∨
    (D.on = true ∧ (0 ≤ i ∧ i < D.lasts.length) ∧ ∃ s, v = .tuple #[s, .int .i64 0] ∧ Sat G (row 5 1 s 512 (bys (D.shows i.toNat)) :: rdk q D :: L) w')) := by
  obtain ⟨hok, s, wv, ss, hss, hw⟩ := rdk_open hw
  simp only [rparts, rcells, List.cons_append, List.nil_append] at hw
  have hhi := hok.hi
  have hig := hok.img
  refine calls_of_x (args := [_, _]) func_ref06_Disk_Read rfl nt_ref06_Disk_Read rfl ?_
  refine x_seq ?_
  refine x_region rfl ?_
  refine x_as rfl rfl trivial rfl ?_  -- ref.go:58 assign {'nilslice': 1}
  refine x_as rfl rfl trivial rfl ?_  -- ref.go:58 assign 0
  refine xl_nil ?_
  refine x_seq ?_
  refine x_seq ?_
  refine x_region rfl ?_
  refine x_mv rfl rfl trivial rfl ?_  -- ref.go:59 move t0
  refine x_nc rfl rfl trivial rfl ?_  -- ref.go:59 nilCheck t6
  refine x_fld rfl rfl trivial fo_coppiceref06_Disk_2 rfl ?_  -- ref.go:59 fieldAddr[56] t7 .Power(+2)
  refine x_ld rfl rfl trivial rfl (Loads.blk1 one_bool hw (by repeat (first | with_reducible exact Pick.here | apply Pick.there)) rfl) ?_  -- ref.go:59 load[4] t8
  -- ref.go:59 unOp "not" 4 9
  refine x_not rfl rfl trivial rfl ?_
  refine xl_nil ?_
  refine x_cond rfl (fun h1 => ?_) (fun h1 => ?_)
  · -- yes
    refine x_seq ?_
    refine x_region rfl ?_
    refine x_as rfl rfl trivial rfl ?_  -- ref.go:60 assign {'nilslice': 1}
    refine x_as rfl rfl trivial rfl ?_  -- ref.go:60 assign 17
    refine xl_nil ?_
    refine x_ret ?_
    exact end2 rfl rfl rfl (.inl ⟨by simpa using h1, rfl, rdk_shut hok hss hw⟩)
  · -- no
    refine x_skip ?_
    refine x_seq ?_
    refine x_seq ?_
    refine x_region rfl ?_
    refine x_mv rfl rfl trivial rfl ?_  -- ref.go:62 move t0
    refine x_mv rfl rfl trivial rfl ?_  -- ref.go:62 move t1
    refine x_call rfl rfl trivial cal_ref06_Disk_has rfl (ct_ref06_Disk_has (l := D.img) hw (R := _) (by repeat (first | with_reducible exact Pick.here | apply Pick.there)) (rowB (n := 512 * D.lasts.length) hig (by repeat (first | with_reducible exact Pick.here | apply Pick.there))) (by omega)) rfl (fun w v13 hv => ?_)  -- ref.go:62 call f59 (*coppice/coppiceref06.Disk).has(t11, t12)
    obtain ⟨rfl, hw⟩ := hv
    rw [img_div hok]
    refine x_notp rfl rfl trivial rfl ?_  -- ref.go:62 unOp "not" 4 13
    refine xl_nil ?_
    refine x_if rfl (fun h2 => ?_) (fun h2 => ?_)
    · -- yes
      refine x_seq ?_
      refine x_region rfl ?_
      refine x_as rfl rfl trivial rfl ?_  -- ref.go:63 assign {'nilslice': 1}
      refine x_as rfl rfl trivial rfl ?_  -- ref.go:63 assign 16
      refine xl_nil ?_
      refine x_ret ?_
      exact end2 rfl rfl rfl (.inr (.inl ⟨by simpa using h1, h2, rfl, rdk_shut hok hss hw⟩))
    · -- no
      have hin : 0 ≤ i ∧ i < D.lasts.length := Decidable.not_not.1 h2
      obtain ⟨j, rfl⟩ := Int.eq_ofNat_of_zero_le hin.1
      have hw := rdk_shut (D := D) (s := s) hok hss hw
      refine x_skip ?_
      refine x_seq ?_
      refine x_region rfl ?_
      refine x_mv rfl rfl trivial rfl ?_  -- ref.go:65 move t0
      refine x_mv rfl rfl trivial rfl ?_  -- ref.go:65 move t1
      refine x_call rfl rfl trivial cal_ref06_Disk_Shows rfl (ct_ref06_Disk_Shows (i := j) hw (by omega) hcnt) rfl (fun w v17 hv => ?_)  -- ref.go:65 call f62 (*coppice/coppiceref06.Disk).Shows(t15, t16)
      have hw : Sat G (row 5 1 v17 512 (bys (D.shows j)) :: rdk q D :: L) w := hv
      refine x_as rfl rfl trivial rfl ?_  -- ref.go:65 assign t17
      refine x_as rfl rfl trivial rfl ?_  -- ref.go:65 assign 0
      refine xl_nil ?_
      refine x_ret ?_
      exact end2 rfl rfl rfl (.inr (.inr ⟨by simpa using h1, hin, _, rfl, hw⟩))

theorem ct_ref06_Disk_Unsynced (hw : Sat G (rdk q D :: L) w) (hcnt : D.wrote < 1000000000) :
    Calls Try.prog 45 #[.pointer (some ⟨q, 0, none⟩)] w (Ret fun r w' => Sat G (row 3 1 r D.ws.length (ints D.nos) :: rdk q D :: L) w') := by
  obtain ⟨hok, s, wv, ss, hss, hw⟩ := rdk_open hw
  simp only [rparts, rcells, List.cons_append, List.nil_append] at hw
  have hwn := hok.cnt
  obtain ⟨aw, cw, rfl⟩ := row_form (hw.pick (A := row 92 _ _ _ _) (by repeat (first | with_reducible exact Pick.here | apply Pick.there)))
  refine calls_of_x (args := [_]) func_ref06_Disk_Unsynced rfl nt_ref06_Disk_Unsynced rfl ?_
  refine x_seq ?_
  refine x_region rfl ?_
  refine x_as rfl rfl trivial rfl ?_  -- ref.go:158 assign {'nilslice': 1}
  refine xl_nil ?_
  refine x_seq ?_
  refine x_region rfl ?_
  refine x_as rfl rfl trivial rfl ?_  -- ref.go:159 assign {'nilslice': 1}
  refine xl_nil ?_
  refine x_seq ?_
  refine x_seq ?_
  refine x_region rfl ?_
  refine x_as rfl rfl trivial rfl ?_  -- ref.go:160 assign 0
  refine xl_nil ?_
  refine x_block ?_
  have hw := row_nil hw 3 1
  refine x_loop (fun m e w => ∃ (k : Nat) (u : Value), k ≤ D.ws.length ∧ m = D.ws.length - k ∧ e = [(0, .pointer (some ⟨q, 0, none⟩)), (3, u), (4, .int .i64 k)] ∧ Sat G (row 3 1 u k (ints (D.nos.take k)) :: blk q (rcells s (.slice aw D.ws.length cw) D) 56 :: row 5 1 s (512 * D.lasts.length) (bys D.img) :: row 92 2 (.slice aw D.ws.length cw) D.ws.length (wcs ss D.ws) :: both (wrows ss D.ws) :: L) w)
    (m := D.ws.length) (e₀ := [(0, .pointer (some ⟨q, 0, none⟩)), (3, .slice none 0 0), (4, .int .i64 (0 : Nat))]) (by repeat (first | exact Sub.nil _ | refine Sub.cons rfl ?_))
    ⟨0, _, Nat.zero_le _, rfl, rfl, hw⟩ ?_
  rintro m e w ⟨k, u, hk, rfl, rfl, hw⟩
  simp only [rcells] at hw
  refine x_seq ?_
  refine x_seq ?_
  refine x_region rfl ?_
  refine x_mv rfl rfl trivial rfl ?_  -- ref.go:160 move t4
  refine x_mv rfl rfl trivial rfl ?_  -- ref.go:160 move t0
  refine x_nc rfl rfl trivial rfl ?_  -- ref.go:160 nilCheck t6
  refine x_fld rfl rfl trivial fo_coppiceref06_Disk_1 rfl ?_  -- ref.go:160 fieldAddr[56] t7 .Writes(+1)
  refine x_ld rfl rfl trivial rfl (Loads.blk1 one_sl_coppiceref06_Written hw (by repeat (first | with_reducible exact Pick.here | apply Pick.there)) rfl) ?_  -- ref.go:160 load[54] t8
  refine x_len rfl rfl trivial rfl U_sl_coppiceref06_Written rfl ?_  -- ref.go:160 len(t9)
  refine x_lt rfl rfl trivial rfl rfl ?_  -- ref.go:160 lss[3] t5 t10
  refine xl_nil ?_
  refine x_if rfl (fun h1 => ?_) (fun h1 => ?_)
  · -- yes
    have hk' : k < D.ws.length := by omega
    obtain ⟨⟨i, c⟩, hx⟩ : ∃ x, D.ws[k]? = some x := ⟨_, List.getElem?_eq_getElem hk'⟩
    have hwx := hok.ws _ (List.mem_of_getElem? hx)
    simp only at hwx
    obtain ⟨bw, capw, cur, bb, ob, cb, hwv, hcc, hcm, hcl, hw, hc1, hc2, hkn⟩ := rw_open hss hx hwx.2 hw (R := _) (by repeat (first | with_reducible exact Pick.here | apply Pick.there)) (R' := _) (by repeat (first | with_reducible exact Pick.here | apply Pick.there))
    cases hwv
    have hns : ints (D.nos.take (k + 1)) = ints (D.nos.take k) ++ [.int .i64 i] := by
      have : D.nos[k]? = some (i : Int) := by unfold Dk.nos; rw [List.getElem?_map, hx]; rfl
      rw [List.take_add_one, this]; simp [ints]
    refine x_skip ?_
    refine x_seq ?_
    refine x_block ?_
    refine x_region rfl ?_
    refine x_mv rfl rfl trivial rfl ?_  -- ref.go:161 move t3
    refine x_mv rfl rfl trivial rfl ?_  -- ref.go:161 move t0
    refine x_nc rfl rfl trivial rfl ?_  -- ref.go:161 nilCheck t15
    refine x_fld rfl rfl trivial fo_coppiceref06_Disk_1 rfl ?_  -- ref.go:161 fieldAddr[56] t16 .Writes(+1)
    refine x_ld rfl rfl trivial rfl (Loads.blk1 one_sl_coppiceref06_Written hw (by repeat (first | with_reducible exact Pick.here | apply Pick.there)) rfl) ?_  -- ref.go:161 load[54] t17
    refine x_mv rfl rfl trivial rfl ?_  -- ref.go:161 move t4
    refine x_idx rfl rfl trivial U_sl_coppiceref06_Written sz_coppiceref06_Written rfl rfl ⟨by omega, by omega⟩ ?_  -- ref.go:161 indexAddr[54] t18 [t19] 
    refine x_fldk rfl rfl trivial fo_coppiceref06_Written_0 rfl ?_  -- ref.go:161 fieldAddr[92] t20 .Block(+0)
    refine x_ld rfl rfl trivial rfl (Loads.blk1 one_int hw (by repeat (first | with_reducible exact Pick.here | apply Pick.there)) hc1) ?_  -- ref.go:161 load[3] t21
    -- ref.go:161 buildSlice 52 1 [[0, 22]]
    refine x_bs1 (cs := [.int .i64 i]) rfl rfl trivial U_sl_int sz_int zs_int (by decide) rfl rfl rfl hw (by kernel_rfl) (fun w b23 hw => ?_)
    -- ref.go:161 append(t14, t23)
    refine x_app (m := k) (k := 1) (news := [.int .i64 i]) rfl rfl trivial U_sl_int sz_int by_int zs_int rfl rfl hw (by repeat (first | with_reducible exact Pick.here | apply Pick.there)) (Rd.blk0 hw (by repeat (first | with_reducible exact Pick.here | apply Pick.there))) rfl (by intro u hu; simp at hu; subst hu; rfl) (by simp only [maxLen]; omega) (by omega) (by kernel_rfl) (fun w v24 hw => ?_)
    refine x_as rfl rfl trivial rfl ?_  -- ref.go:161 assign t24
    refine xl_nil ?_
    refine x_region rfl ?_
    refine x_mv rfl rfl trivial rfl ?_  -- ref.go:160 move t4
    refine x_addi rfl rfl trivial rfl rfl (by omega) ?_  -- ref.go:160 add[3] t12 1
    refine x_as rfl rfl trivial rfl ?_  -- ref.go:160 assign t13
    refine xl_nil ?_
    rw [← hns] at hw
    have hw := (hw.bring (As := [blk b23 _ _, blk bw _ _]) (by repeat (first | exact Bring.nil | (apply Bring.cons; repeat (first | with_reducible exact Pick.here | apply Pick.there))))).tail
    have hw := row_mk (z := 2) (m := D.ws.length) hw (wcs_length hss) hcc hcm hcl
    exact ⟨D.ws.length - (k + 1), by omega, [(0, _), (3, _), (4, .int .i64 (k + 1 : Nat))], (by repeat (first | exact Sub.nil _ | refine Sub.cons rfl ?_)), k + 1, _, by omega, rfl, rfl, hw.bring (As := [row 3 1 v24 _ _, blk q _ _, row 5 1 s _ _, row 92 _ _ _ _, both _]) (by repeat (first | exact Bring.nil | (apply Bring.cons; repeat (first | with_reducible exact Pick.here | apply Pick.there))))⟩
  · -- no
    have hkk : k = D.ws.length := by omega
    refine x_exit rfl ?_  -- exit 0
    refine x_seq ?_
    refine x_region rfl ?_
    refine x_mv rfl rfl trivial rfl ?_  -- ref.go:163 move t3
    refine x_as rfl rfl trivial rfl ?_  -- ref.go:163 assign t25
    refine xl_nil ?_
    refine x_ret ?_
    exact end1 rfl rfl (by
  subst hkk
  rw [List.take_of_length_le (by rw [nos_length]; omega)] at hw
  have hw := hw.bring (As := [blk q _ _, row 5 1 s _ _, row 92 _ _ _ _, both _]) (by repeat (first | exact Bring.nil | (apply Bring.cons; repeat (first | with_reducible exact Pick.here | apply Pick.there))))
  exact (rdk_shut (s := s) hok hss hw).pick (by repeat (first | with_reducible exact Pick.here | apply Pick.there)))

theorem ct_ref06_Disk_Lay {i : Int} {v : Value} {l : Bys} (hw : Sat G (rdk q D :: L) w) (ka : Knows L (SlB v l)) :
    Calls Try.prog 39 #[.pointer (some ⟨q, 0, none⟩), .int .i64 i, v] w (Ret fun r w' => r = .bool (D.lay i l).1 ∧ Sat G (rdk q (D.lay i l).2 :: L) w') := by
  obtain ⟨a, cap, rfl⟩ := ((ka.of (by repeat (first | exact Suf.refl _ | apply Suf.cons))).at hw).form
  obtain ⟨hok, s, wv, ss, hss, hw⟩ := rdk_open hw
  simp only [rparts, rcells, List.cons_append, List.nil_append] at hw
  have hhi := hok.hi
  have hig := hok.img
  refine calls_of_x (args := [_, _, _]) func_ref06_Disk_Lay rfl nt_ref06_Disk_Lay rfl ?_
  refine x_seq ?_
  refine x_region rfl ?_
  refine x_as rfl rfl trivial rfl ?_  -- ref.go:173 assign False
  refine xl_nil ?_
  refine x_seq ?_
  refine x_seq ?_
  refine x_region rfl ?_
  refine x_mv rfl rfl trivial rfl ?_  -- ref.go:174 move t0
  refine x_nc rfl rfl trivial rfl ?_  -- ref.go:174 nilCheck t7
  refine x_fld rfl rfl trivial fo_coppiceref06_Disk_2 rfl ?_  -- ref.go:174 fieldAddr[56] t8 .Power(+2)
  refine x_ld rfl rfl trivial rfl (Loads.blk1 one_bool hw (by repeat (first | with_reducible exact Pick.here | apply Pick.there)) rfl) ?_  -- ref.go:174 load[4] t9
  refine x_mv rfl rfl trivial rfl ?_  -- ref.go:174 move t10
  refine xl_splitb (d := 11) rfl (fun h1 => ?_) (fun h1 => ?_)
  · -- yes
    refine xl_no rfl rfl rfl rfl rfl rfl ?_  -- passed over: move t0
    refine xl_no rfl rfl rfl rfl rfl rfl ?_  -- passed over: move t1
    refine xl_no rfl rfl rfl rfl rfl rfl ?_  -- passed over: call f59 (*coppice/coppiceref06.Disk).has(t12, t13)
    refine xl_no rfl rfl rfl rfl rfl rfl ?_  -- passed over: unOp "not" 4 14
    refine x_pickT rfl rfl trivial rfl rfl rfl ?_  -- ref.go:174 pick t11 ? True : t15
    refine x_mv rfl rfl trivial rfl ?_  -- ref.go:174 move t16
    refine xl_no rfl rfl rfl rfl rfl rfl ?_  -- passed over: move t2
    refine xl_no rfl rfl rfl rfl rfl rfl ?_  -- passed over: len(t18)
    refine xl_no rfl rfl rfl rfl rfl rfl ?_  -- passed over: neq[3] t19 512
    refine x_pickT rfl rfl trivial rfl rfl rfl ?_  -- ref.go:174 pick t17 ? True : t20
    refine xl_nil ?_
    refine x_cond_true rfl ?_
    refine x_seq ?_
    refine x_region rfl ?_
    refine x_as rfl rfl trivial rfl ?_  -- ref.go:175 assign False
    refine xl_nil ?_
    refine x_ret ?_
    exact end1 rfl rfl (by unfold Dk.lay; rw [if_pos h1]; exact ⟨rfl, rdk_shut hok hss hw⟩)
  · -- no
    refine x_mv rfl rfl ⟨_, rfl, rfl⟩ rfl ?_  -- ref.go:174 move t0
    refine x_mv rfl rfl ⟨_, rfl, rfl⟩ rfl ?_  -- ref.go:174 move t1
    refine x_call rfl rfl ⟨_, rfl, rfl⟩ cal_ref06_Disk_has rfl (ct_ref06_Disk_has (l := D.img) hw (R := _) (by repeat (first | with_reducible exact Pick.here | apply Pick.there)) (rowB (n := 512 * D.lasts.length) hig (by repeat (first | with_reducible exact Pick.here | apply Pick.there))) (by omega)) rfl (fun w v14 hv => ?_)  -- ref.go:174 call f59 (*coppice/coppiceref06.Disk).has(t12, t13)
    obtain ⟨rfl, hw⟩ := hv
    rw [img_div hok]
    refine x_notp rfl rfl ⟨_, rfl, rfl⟩ rfl ?_  -- ref.go:174 unOp "not" 4 14
    refine x_pickF rfl rfl trivial rfl rfl rfl ?_  -- ref.go:174 pick t11 ? True : t15
    refine x_mv rfl rfl trivial rfl ?_  -- ref.go:174 move t16
    refine xl_split (d := 17) rfl (fun h2 => ?_) (fun h2 => ?_)
    · -- yes
      refine xl_no rfl rfl rfl rfl rfl rfl ?_  -- passed over: move t2
      refine xl_no rfl rfl rfl rfl rfl rfl ?_  -- passed over: len(t18)
      refine xl_no rfl rfl rfl rfl rfl rfl ?_  -- passed over: neq[3] t19 512
      refine x_pickT rfl rfl trivial rfl rfl rfl ?_  -- ref.go:174 pick t17 ? True : t20
      refine xl_nil ?_
      refine x_cond_true rfl ?_
      refine x_seq ?_
      refine x_region rfl ?_
      refine x_as rfl rfl trivial rfl ?_  -- ref.go:175 assign False
      refine xl_nil ?_
      refine x_ret ?_
      exact end1 rfl rfl (by unfold Dk.lay; rw [if_neg (by simp [h1]), if_pos h2]; exact ⟨rfl, rdk_shut hok hss hw⟩)
    · -- no
      have hin : 0 ≤ i ∧ i < D.lasts.length := Decidable.not_not.1 h2
      obtain ⟨j, rfl⟩ := Int.eq_ofNat_of_zero_le hin.1
      refine x_mv rfl rfl ⟨_, rfl, rfl⟩ rfl ?_  -- ref.go:174 move t2
      refine x_len rfl rfl ⟨_, rfl, rfl⟩ rfl U_sl_uint8 rfl ?_  -- ref.go:174 len(t18)
      refine x_ne rfl rfl ⟨_, rfl, rfl⟩ rfl rfl rfl ?_  -- ref.go:174 neq[3] t19 512
      refine x_pickF rfl rfl trivial rfl rfl rfl ?_  -- ref.go:174 pick t17 ? True : t20
      refine xl_nil ?_
      refine x_if rfl (fun h3 => ?_) (fun h3 => ?_)
      · -- yes
        refine x_seq ?_
        refine x_region rfl ?_
        refine x_as rfl rfl trivial rfl ?_  -- ref.go:175 assign False
        refine xl_nil ?_
        refine x_ret ?_
        exact end1 rfl rfl (by unfold Dk.lay; rw [if_neg (by simp [h1]), if_neg h2, if_pos (by omega)]; exact ⟨rfl, rdk_shut hok hss hw⟩)
      · -- no
        have hl5 : l.length = 512 := by omega
        refine x_skip ?_
        refine x_seq ?_
        refine x_region rfl ?_
        refine x_mv rfl rfl trivial rfl ?_  -- ref.go:177 move t0
        refine x_mv rfl rfl trivial rfl ?_  -- ref.go:177 move t1
        refine x_mv rfl rfl trivial rfl ?_  -- ref.go:177 move t2
        refine x_call rfl rfl trivial cal_ref06_Disk_lay rfl (ct_ref06_Disk_lay (n := 512 * D.lasts.length) (B := D.lasts) (i := j) (c := l) hw ((ka.of (by repeat (first | exact Suf.refl _ | apply Suf.cons)))) hl5 hok.blk rfl (by omega) hhi) rfl (fun w v25 hv => ?_)  -- ref.go:177 call f61 (*coppice/coppiceref06.Disk).lay(t22, t23, t24)
        obtain ⟨-, hw⟩ := hv
        refine xl_nil ?_
        refine x_seq ?_
        refine x_region rfl ?_
        refine x_as rfl rfl trivial rfl ?_  -- ref.go:178 assign True
        refine xl_nil ?_
        refine x_ret ?_
        exact end1 rfl rfl (by
  unfold Dk.lay; rw [if_neg (by simp [h1]), if_neg h2, if_neg (by omega)]
  refine ⟨rfl, rdk_shut (s := s) (wv := wv) (ss := ss) ⟨by simp only [Int.toNat_natCast, List.length_set]; exact hok.lo, by simp only [Int.toNat_natCast, List.length_set]; exact hhi, set_blk hok.blk hl5, by simp only [Int.toNat_natCast, List.length_set]; exact hok.ws, hok.alarm, hok.off, hok.cnt⟩ hss ?_⟩
  refine hw.of_eq ?_
  simp [rparts, rcells, Dk.img])
end
end Go.Proofs.Ytekilljcoplacaa.X
