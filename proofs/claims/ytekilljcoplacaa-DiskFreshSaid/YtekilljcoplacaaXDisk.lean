/- The disk of the program: what it is in memory, and its functions. -/
import Derived.Test.YtekilljcoplacaaXBytes
namespace Go.Proofs.Ytekilljcoplacaa.X
set_option linter.unusedVariables false
set_option linter.unusedSimpArgs false

abbrev Bys := List UInt8
/-- a block of zeros -/
def zb : Bys := List.replicate 512 0
theorem zb_length : zb.length = 512 := List.length_replicate ..
theorem bys_zb : bys zb = rep 512 (.int .u8 0) := List.map_replicate ..
/-- a block as a value -/
def blkv (c : Bys) : Value := .agg (bys c).toArray
/-- the cells of a write -/
def wcells (x : Nat × Bys) : List Value := .int .i64 x.1 :: bys x.2

structure Dk where
  lasts : List Bys
  ws : List (Nat × Bys)
  on : Bool
  alarm : Int
  wrote : Nat
  synced : Nat

structure Dk.Ok (D : Dk) : Prop where
  lo : 8 ≤ D.lasts.length
  hi : D.lasts.length ≤ 65536
  blk : ∀ c ∈ D.lasts, c.length = 512
  ws : ∀ x ∈ D.ws, x.1 < D.lasts.length ∧ x.2.length = 512
  alarm : -1 ≤ D.alarm ∧ D.alarm ≤ 9223372036854775807
  off : D.on = false → D.alarm = -1
  cnt : D.ws.length ≤ D.wrote

def blkAt (l : List Bys) (i : Nat) : Bys := l.getD i zb

/-- the last write to a block -/
def lastOf : List (Nat × Bys) → Nat → Option Bys
  | [], _ => none
  | (j, c) :: r, i => match lastOf r i with
    | some x => some x
    | none => if j = i then some c else none

theorem lastOf_snoc (ws : List (Nat × Bys)) (j : Nat) (c : Bys) (i : Nat) : lastOf (ws ++ [(j, c)]) i = if i = j then some c else lastOf ws i := by
  induction ws with
  | nil => by_cases h : j = i <;> simp [lastOf, h, eq_comm]
  | cons x r ih =>
    obtain ⟨k, b⟩ := x
    simp only [List.cons_append, lastOf, ih]
    by_cases h : i = j <;> simp [h]
theorem lastOf_mem {ws : List (Nat × Bys)} {i : Nat} {c : Bys} (h : lastOf ws i = some c) : (i, c) ∈ ws := by
  induction ws with
  | nil => cases h
  | cons x r ih =>
    obtain ⟨k, b⟩ := x
    simp only [lastOf] at h
    split at h
    · rename_i y hy; cases h; exact List.mem_cons_of_mem _ (ih hy)
    · split at h
      · rename_i e; cases h; subst e; exact List.mem_cons_self ..
      · cases h

/-- the map of what lasts -/
structure LastM (kv : KV) (l : List Bys) : Prop where
  nod : (kv.map (·.1)).Nodup
  look : ∀ i : Int, klook kv i = if 0 ≤ i ∧ i < l.length ∧ blkAt l i.toNat ≠ zb then some (blkv (blkAt l i.toNat)) else none
/-- the map of what is shown -/
structure ShownM (kv : KV) (ws : List (Nat × Bys)) : Prop where
  nod : (kv.map (·.1)).Nodup
  look : ∀ i : Int, klook kv i = if 0 ≤ i then (lastOf ws i.toNat).map blkv else none

theorem blkAt_set {l : List Bys} {i j : Nat} {c : Bys} (hi : i < l.length) : blkAt (l.set i c) j = if j = i then c else blkAt l j := by
  unfold blkAt
  by_cases h : j = i
  · subst h; simp [hi]
  · simp [h, List.getElem?_set, Ne.symm h]

/-- 'keep' -/
def kkeep (kv : KV) (i : Nat) (c : Bys) : KV := if c = zb then kdel kv i else kput kv i (blkv c)

theorem LastM.keep {kv : KV} {l : List Bys} (h : LastM kv l) {i : Nat} (hi : i < l.length) (c : Bys) : LastM (kkeep kv i c) (l.set i c) := by
  unfold kkeep
  by_cases hc : c = zb
  · rw [if_pos hc]
    refine ⟨kdel_nodup h.nod _, fun j => ?_⟩
    rw [klook_del h.nod, h.look]
    by_cases hj : j = i
    · subst hj; simp [blkAt_set hi, hc]
    · rw [if_neg hj, List.length_set]
      by_cases h0 : 0 ≤ j
      · have hne : ¬ j.toNat = i := by omega
        simp only [blkAt_set hi, if_neg hne]
      · simp [h0]
  · rw [if_neg hc]
    refine ⟨kput_nodup h.nod _ _, fun j => ?_⟩
    rw [klook_put, h.look]
    by_cases hj : j = i
    · subst hj; rw [if_pos rfl, if_pos]
      · simp [blkAt_set hi]
      · simp [blkAt_set hi, hc, hi]
    · rw [if_neg hj, List.length_set]
      by_cases h0 : 0 ≤ j
      · have hne : ¬ j.toNat = i := by omega
        simp only [blkAt_set hi, if_neg hne]
      · simp [h0]

theorem ShownM.put {kv : KV} {ws : List (Nat × Bys)} (h : ShownM kv ws) (i : Nat) (c : Bys) : ShownM (kput kv i (blkv c)) (ws ++ [(i, c)]) := by
  refine ⟨kput_nodup h.nod _ _, fun j => ?_⟩
  rw [klook_put, h.look]
  by_cases hj : j = i
  · subst hj; simp [lastOf_snoc]
  · rw [if_neg hj]
    by_cases h0 : 0 ≤ j
    · rw [if_pos h0, if_pos h0, lastOf_snoc, if_neg (by omega)]
    · rw [if_neg h0, if_neg h0]
theorem ShownM.nil : ShownM [] [] := ⟨by simp, fun i => by simp [klook, lastOf]⟩

/-- The struct's cells. -/
def dcells (n : Nat) (ml ms : Nat) (sv : Value) (on : Bool) (alarm : Int) (wrote synced : Nat) : List Value :=
  [.int .i64 n, .map (some ml), sv, .map (some ms), .bool on, .int .i64 alarm, .int .i64 wrote, .int .i64 synced]

def dparts (p ml ms : Nat) (sv : Value) (kl ks : KV) (D : Dk) : List Assn :=
  [blk p (dcells D.lasts.length ml ms sv D.on D.alarm D.wrote D.synced) 86, mapI ml kl, mapI ms ks, row 89 513 sv D.ws.length (D.ws.flatMap wcells)]

/-- A disk. -/
def dsk (p : Nat) (D : Dk) : Assn := fun h => D.Ok ∧ ∃ ml ms sv kl ks, LastM kl D.lasts ∧ ShownM ks D.ws ∧ all (dparts p ml ms sv kl ks D) h

section
variable {G : Gh} {L R : List Assn} {w : World} {p : Nat} {D : Dk}

theorem dsk_open (hw : Sat G (dsk p D :: R) w) : D.Ok ∧ ∃ ml ms sv kl ks, LastM kl D.lasts ∧ ShownM ks D.ws ∧ Sat G (dparts p ml ms sv kl ks D ++ R) w := by
  obtain ⟨hg, h, hh, h1, h2, hd, hu, ⟨hok, ml, ms, sv, kl, ks, hl, hs, ha⟩, hR⟩ := hw
  exact ⟨hok, ml, ms, sv, kl, ks, hl, hs, Sat.both_out (M := dparts p ml ms sv kl ks D) ⟨hg, h, hh, h1, h2, hd, hu, ha, hR⟩⟩
theorem dsk_shut {ml ms : Nat} {sv : Value} {kl ks : KV} (hok : D.Ok) (hl : LastM kl D.lasts) (hs : ShownM ks D.ws) (hw : Sat G (dparts p ml ms sv kl ks D ++ R) w) : Sat G (dsk p D :: R) w := by
  have := Sat.both_in (M := dparts p ml ms sv kl ks D) hw
  exact this.cons_mono fun h ha => ⟨hok, ml, ms, sv, kl, ks, hl, hs, ha⟩

theorem ct_disk_over {n : Nat} (hw : Sat G L w) (hn : 8 ≤ n ∧ n ≤ 65536) :
    Calls Try.prog 46 #[.int .i64 n] w (Ret fun v w' => ∃ p, v = .pointer (some ⟨p, 0, none⟩) ∧ Sat G (dsk p ⟨List.replicate n zb, [], true, -1, 0, 0⟩ :: L) w') := by
  refine calls_of_x (args := [_]) func_disk_over rfl nt_disk_over rfl ?_
  refine x_seq ?_
  refine x_region rfl ?_
  refine x_as rfl rfl trivial rfl ?_  -- disk.go:30 assign {'nilptr': 1}
  refine xl_nil ?_
  refine x_seq ?_
  refine x_region rfl ?_
  refine x_mv rfl rfl trivial rfl ?_  -- disk.go:31 move t0
  refine x_mkm rfl rfl trivial hw rfl (fun w m4 hw => ?_)  -- disk.go:31 makeMap 83 null
  refine x_mkm rfl rfl trivial hw rfl (fun w m5 hw => ?_)  -- disk.go:31 makeMap 83 null
  -- disk.go:31 build 86 [[0, 3], [1, 4], [3, 5], [4, {"c": {"bool": true}}], [5, {"c": {"int": -1, "k": "i64"}}]]
  refine x_build (v := .agg #[.int .i64 n, .map (some m4), .slice none 0 0, .map (some m5), .bool true, .int .i64 (-1), .int .i64 0, .int .i64 0]) rfl rfl trivial rfl (fun w => by kernel_rfl) ?_
  refine x_box rfl rfl trivial rfl rfl hw rfl (fun w b7 hw => ?_)  -- disk.go:31 box[86] t6
  have hw := row_nil hw 89 513
  have hok : Dk.Ok ⟨List.replicate n zb, [], true, -1, 0, 0⟩ := ⟨by simp; omega, by simp; omega, fun c hc => by rw [List.eq_of_mem_replicate hc]; exact zb_length, by simp, by simp, by simp, by simp⟩
  have hlm : LastM [] (List.replicate n zb) := ⟨by simp, fun i => by
    have : blkAt (List.replicate n zb) i.toNat = zb := by
      unfold blkAt; rw [List.getD_eq_getElem?_getD, List.getElem?_replicate]; split <;> rfl
    simp [klook, this]⟩
  refine x_as rfl rfl trivial rfl ?_  -- disk.go:31 assign t7
  refine xl_nil ?_
  refine x_ret ?_
  exact end1 rfl rfl ⟨_, rfl, dsk_shut (ml := m4) (ms := m5) (sv := .slice none 0 0) hok hlm ShownM.nil (by
  have h := hw.picks (As := [blk b7 _ _, mapI m4 _, mapI m5 _, row _ _ _ _ _]) (by repeat (first | exact Picks.nil | (apply Picks.cons; repeat (first | with_reducible exact Pick.here | apply Pick.there))))
  refine h.of_eq ?_
  simp [dparts, dcells])⟩


theorem ct_disk_New {n : Int} (hw : Sat G L w) :
    Calls Try.prog 49 #[.int .i64 n] w (Ret fun v w' => (¬ (8 ≤ n ∧ n ≤ 65536) ∧ v = .tuple #[.pointer none, .int .i64 1] ∧ Sat G L w') ∨
      ((8 ≤ n ∧ n ≤ 65536) ∧ ∃ p, v = .tuple #[.pointer (some ⟨p, 0, none⟩), .int .i64 0] ∧ Sat G (dsk p ⟨List.replicate n.toNat zb, [], true, -1, 0, 0⟩ :: L) w')) := by
  refine calls_of_x (args := [_]) func_disk_New rfl nt_disk_New rfl ?_
  refine x_seq ?_
  refine x_region rfl ?_
  refine x_as rfl rfl trivial rfl ?_  -- disk.go:35 assign {'nilptr': 1}
  refine x_as rfl rfl trivial rfl ?_  -- disk.go:35 assign 0
  refine xl_nil ?_
  refine x_seq ?_
  refine x_seq ?_
  refine x_region rfl ?_
  refine x_mv rfl rfl trivial rfl ?_  -- disk.go:36 move t0
  refine x_lt rfl rfl trivial rfl rfl ?_  -- disk.go:36 lss[3] t4 8
  refine x_mv rfl rfl trivial rfl ?_  -- disk.go:36 move t5
  refine xl_split (d := 6) rfl (fun h1 => ?_) (fun h1 => ?_)
  · -- yes
    refine xl_no rfl rfl rfl rfl rfl rfl ?_  -- passed over: move t0
    refine xl_no rfl rfl rfl rfl rfl rfl ?_  -- passed over: gtr[3] t7 65536
    refine x_pickT rfl rfl trivial rfl rfl rfl ?_  -- disk.go:36 pick t6 ? True : t8
    refine xl_nil ?_
    refine x_cond_true rfl ?_
    refine x_seq ?_
    refine x_region rfl ?_
    refine x_as rfl rfl trivial rfl ?_  -- disk.go:37 assign {'nilptr': 1}
    refine x_as rfl rfl trivial rfl ?_  -- disk.go:37 assign 1
    refine xl_nil ?_
    refine x_ret ?_
    exact end2 rfl rfl rfl (.inl ⟨by omega, rfl, hw⟩)
  · -- no
    refine x_mv rfl rfl ⟨_, rfl, rfl⟩ rfl ?_  -- disk.go:36 move t0
    refine x_gt rfl rfl ⟨_, rfl, rfl⟩ rfl rfl ?_  -- disk.go:36 gtr[3] t7 65536
    refine x_pickF rfl rfl trivial rfl rfl rfl ?_  -- disk.go:36 pick t6 ? True : t8
    refine xl_nil ?_
    refine x_if rfl (fun h2 => ?_) (fun h2 => ?_)
    · -- yes
      refine x_seq ?_
      refine x_region rfl ?_
      refine x_as rfl rfl trivial rfl ?_  -- disk.go:37 assign {'nilptr': 1}
      refine x_as rfl rfl trivial rfl ?_  -- disk.go:37 assign 1
      refine xl_nil ?_
      refine x_ret ?_
      exact end2 rfl rfl rfl (.inl ⟨by omega, rfl, hw⟩)
    · -- no
      obtain ⟨m, rfl⟩ := Int.eq_ofNat_of_zero_le (show 0 ≤ n by omega)
      refine x_skip ?_
      refine x_seq ?_
      refine x_region rfl ?_
      refine x_mv rfl rfl trivial rfl ?_  -- disk.go:39 move t0
      refine x_call rfl rfl trivial cal_disk_over rfl (ct_disk_over hw ⟨by omega, by omega⟩) rfl (fun w v11 hv => ?_)  -- disk.go:39 call f46 coppice/disk.over(t10)
      obtain ⟨q, rfl, hw⟩ := hv
      refine x_as rfl rfl trivial rfl ?_  -- disk.go:39 assign t11
      refine x_as rfl rfl trivial rfl ?_  -- disk.go:39 assign 0
      refine xl_nil ?_
      refine x_ret ?_
      exact end2 rfl rfl rfl (.inr ⟨⟨by omega, by omega⟩, q, rfl, hw⟩)

theorem eqGuard_arr : Try.prog.eqGuardType Try.prog.depth 78 = false := by kernel_rfl

/-- 'keep', on the parts that it looks at. -/
theorem ct_disk_Disk_keep {n ml i : Nat} {c : Bys} {kv : KV} {a b1 b2 b3 b4 b5 b6 : Value} (hw : Sat G (blk p [a, .map (some ml), b1, b2, b3, b4, b5, b6] 86 :: mapI ml kv :: L) w) (hc : c.length = 512) :
    Calls Try.prog 47 #[.pointer (some ⟨p, 0, none⟩), .int .i64 i, blkv c] w (Ret fun v w' => v = .tuple #[] ∧ Sat G (blk p [a, .map (some ml), b1, b2, b3, b4, b5, b6] 86 :: mapI ml (kkeep kv i c) :: L) w') := by
  refine calls_of_x (args := [_, _, _]) func_disk_Disk_keep rfl nt_disk_Disk_keep rfl ?_
  refine x_seq ?_
  refine x_region rfl ?_
  refine x_box rfl rfl trivial rfl rfl hw rfl (fun w b5 hw => ?_)  -- disk.go:58 box[78] t2
  refine xl_nil ?_
  refine x_seq ?_
  refine x_region rfl ?_
  refine x_ld rfl rfl trivial rfl (Loads.blkA many_disk_block hw (by repeat (first | with_reducible exact Pick.here | apply Pick.there)) (by rw [bys_length, hc])) ?_  -- disk.go:59 load[78] t5
  -- disk.go:59 build 78 []
  refine x_build (v := .agg (bys zb).toArray) rfl rfl trivial rfl (fun w => by rw [bys_zb]; kernel_rfl) ?_
  -- disk.go:59 eql[78] t6 t7
  refine x_bin rfl rfl trivial rfl rfl rfl (v := .bool (decide (c = zb))) (fun w' => by rw [Sem.run_bind, run_eqGuard_agg _ _ _ _ _ _ _ eqGuard_arr, Result.andThen_ok]; simp only [binOp, Sem.run_bind, run_equal_arr U_disk_block U_uint8 sz_uint8 hc zb_length, Result.andThen_ok]; rfl) ?_
  refine xl_nil ?_
  refine x_if rfl (fun h1 => ?_) (fun h1 => ?_)
  · -- yes
    refine x_region rfl ?_
    refine x_mv rfl rfl trivial rfl ?_  -- disk.go:60 move t0
    refine x_nc rfl rfl trivial rfl ?_  -- disk.go:60 nilCheck t9
    refine x_fld rfl rfl trivial fo_disk_Disk_1 rfl ?_  -- disk.go:60 fieldAddr[86] t10 .last(+1)
    refine x_ld rfl rfl trivial rfl (Loads.blk1 one_m_int_disk_block hw (by repeat (first | with_reducible exact Pick.here | apply Pick.there)) rfl) ?_  -- disk.go:60 load[83] t11
    refine x_mv rfl rfl trivial rfl ?_  -- disk.go:60 move t1
    refine x_del rfl trivial rfl U_m_int_disk_block U_int rfl rfl hw (by repeat (first | with_reducible exact Pick.here | apply Pick.there)) rfl (fun w hw => ?_)  -- disk.go:60 delete(t12, t13)
    refine xl_nil ?_
    exact end0 rfl ⟨rfl, by
  have h := hw.picks (As := [blk p _ _, mapI ml _]) (by repeat (first | exact Picks.nil | (apply Picks.cons; repeat (first | with_reducible exact Pick.here | apply Pick.there))))
  rw [kkeep, if_pos h1]
  exact h.drop (.there (.there .here))⟩
  · -- no
    refine x_draw [0, 1, 2, 3, 4, 5, 6] mixed (by kernel_rfl) ?_  -- region 3
    replace hw := hw.drawn (w.drawn + 1)
    refine x_mv rfl rfl trivial rfl ?_  -- disk.go:62 move t0
    refine x_nc rfl rfl trivial rfl ?_  -- disk.go:62 nilCheck t14
    refine x_fld rfl rfl trivial fo_disk_Disk_1 rfl ?_  -- disk.go:62 fieldAddr[86] t15 .last(+1)
    refine x_ld rfl rfl trivial rfl (Loads.blk1 one_m_int_disk_block hw (by repeat (first | with_reducible exact Pick.here | apply Pick.there)) rfl) ?_  -- disk.go:62 load[83] t16
    refine x_mv rfl rfl trivial rfl ?_  -- disk.go:62 move t1
    refine x_ld rfl rfl trivial rfl (Loads.blkA many_disk_block hw (by repeat (first | with_reducible exact Pick.here | apply Pick.there)) (by rw [bys_length, hc])) ?_  -- disk.go:62 load[78] t5
    refine x_mu rfl trivial U_m_int_disk_block U_int rfl rfl rfl hw (by repeat (first | with_reducible exact Pick.here | apply Pick.there)) (by kernel_rfl) (fun w hw => ?_)  -- disk.go:62 mapUpdate 83 17 18 19
    refine xl_nil ?_
    exact end0 rfl ⟨rfl, by
  have h := hw.picks (As := [blk p _ _, mapI ml _]) (by repeat (first | exact Picks.nil | (apply Picks.cons; repeat (first | with_reducible exact Pick.here | apply Pick.there))))
  rw [kkeep, if_neg h1]
  exact h.drop (.there (.there .here))⟩

theorem ct_disk_Disk_Blocks (hw : Sat G (dsk p D :: L) w) : Calls Try.prog 29 #[.pointer (some ⟨p, 0, none⟩)] w (Ret fun v w' => v = .int .i64 D.lasts.length ∧ Sat G (dsk p D :: L) w') := by
  obtain ⟨hok, ml, ms, sv, kl, ks, hl, hs, hw⟩ := dsk_open hw
  simp only [dparts, dcells, List.cons_append, List.nil_append] at hw
  refine calls_of_x (args := [_]) func_disk_Disk_Blocks rfl nt_disk_Disk_Blocks rfl ?_
  refine x_seq ?_
  refine x_region rfl ?_
  refine x_as rfl rfl trivial rfl ?_  -- disk.go:67 assign 0
  refine xl_nil ?_
  refine x_seq ?_
  refine x_region rfl ?_
  refine x_mv rfl rfl trivial rfl ?_  -- disk.go:67 move t0
  refine x_nc rfl rfl trivial rfl ?_  -- disk.go:67 nilCheck t3
  refine x_fld rfl rfl trivial fo_disk_Disk_0 rfl ?_  -- disk.go:67 fieldAddr[86] t4 .blocks(+0)
  refine x_ld rfl rfl trivial rfl (Loads.blk1 one_int hw (by repeat (first | with_reducible exact Pick.here | apply Pick.there)) rfl) ?_  -- disk.go:67 load[3] t5
  refine x_as rfl rfl trivial rfl ?_  -- disk.go:67 assign t6
  refine xl_nil ?_
  refine x_ret ?_
  exact end1 rfl rfl ⟨rfl, dsk_shut hok hl hs hw⟩

theorem ct_disk_Disk_IsOn (hw : Sat G (dsk p D :: L) w) : Calls Try.prog 27 #[.pointer (some ⟨p, 0, none⟩)] w (Ret fun v w' => v = .bool D.on ∧ Sat G (dsk p D :: L) w') := by
  obtain ⟨hok, ml, ms, sv, kl, ks, hl, hs, hw⟩ := dsk_open hw
  simp only [dparts, dcells, List.cons_append, List.nil_append] at hw
  refine calls_of_x (args := [_]) func_disk_Disk_IsOn rfl nt_disk_Disk_IsOn rfl ?_
  refine x_seq ?_
  refine x_region rfl ?_
  refine x_as rfl rfl trivial rfl ?_  -- disk.go:161 assign False
  refine xl_nil ?_
  refine x_seq ?_
  refine x_region rfl ?_
  refine x_mv rfl rfl trivial rfl ?_  -- disk.go:161 move t0
  refine x_nc rfl rfl trivial rfl ?_  -- disk.go:161 nilCheck t3
  refine x_fld rfl rfl trivial fo_disk_Disk_4 rfl ?_  -- disk.go:161 fieldAddr[86] t4 .on(+4)
  refine x_ld rfl rfl trivial rfl (Loads.blk1 one_bool hw (by repeat (first | with_reducible exact Pick.here | apply Pick.there)) rfl) ?_  -- disk.go:161 load[4] t5
  refine x_as rfl rfl trivial rfl ?_  -- disk.go:161 assign t6
  refine xl_nil ?_
  refine x_ret ?_
  exact end1 rfl rfl ⟨rfl, dsk_shut hok hl hs hw⟩

theorem ct_disk_Disk_Acts (hw : Sat G (dsk p D :: L) w) : Calls Try.prog 26 #[.pointer (some ⟨p, 0, none⟩)] w (Ret fun v w' => v = .tuple #[.int .i64 D.wrote, .int .i64 D.synced] ∧ Sat G (dsk p D :: L) w') := by
  obtain ⟨hok, ml, ms, sv, kl, ks, hl, hs, hw⟩ := dsk_open hw
  simp only [dparts, dcells, List.cons_append, List.nil_append] at hw
  refine calls_of_x (args := [_]) func_disk_Disk_Acts rfl nt_disk_Disk_Acts rfl ?_
  refine x_seq ?_
  refine x_region rfl ?_
  refine x_as rfl rfl trivial rfl ?_  -- disk.go:173 assign 0
  refine x_as rfl rfl trivial rfl ?_  -- disk.go:173 assign 0
  refine xl_nil ?_
  refine x_seq ?_
  refine x_draw [0, 1, 2, 3, 4, 5, 6, 7, 8, 9] mixed (by kernel_rfl) ?_  -- region 1
  replace hw := hw.drawn (w.drawn + 1)
  refine x_mv rfl rfl trivial rfl ?_  -- disk.go:173 move t0
  refine x_nc rfl rfl trivial rfl ?_  -- disk.go:173 nilCheck t4
  refine x_fld rfl rfl trivial fo_disk_Disk_6 rfl ?_  -- disk.go:173 fieldAddr[86] t5 .wrote(+6)
  refine x_ld rfl rfl trivial rfl (Loads.blk1 one_int hw (by repeat (first | with_reducible exact Pick.here | apply Pick.there)) rfl) ?_  -- disk.go:173 load[3] t6
  refine x_mv rfl rfl trivial rfl ?_  -- disk.go:173 move t0
  refine x_nc rfl rfl trivial rfl ?_  -- disk.go:173 nilCheck t8
  refine x_fld rfl rfl trivial fo_disk_Disk_7 rfl ?_  -- disk.go:173 fieldAddr[86] t9 .synced(+7)
  refine x_ld rfl rfl trivial rfl (Loads.blk1 one_int hw (by repeat (first | with_reducible exact Pick.here | apply Pick.there)) rfl) ?_  -- disk.go:173 load[3] t10
  refine x_as rfl rfl trivial rfl ?_  -- disk.go:173 assign t7
  refine x_as rfl rfl trivial rfl ?_  -- disk.go:173 assign t11
  refine xl_nil ?_
  refine x_ret ?_
  exact end2 rfl rfl rfl ⟨rfl, dsk_shut hok hl hs hw⟩

/- 'there', on the struct. -/
theorem ct_disk_Disk_there {n : Nat} {i : Int} {b0 b1 b2 b3 b4 b5 b6 : Value} (hw : Sat G (blk p [.int .i64 n, b0, b1, b2, b3, b4, b5, b6] 86 :: L) w) :
    Calls Try.prog 54 #[.pointer (some ⟨p, 0, none⟩), .int .i64 i] w (Ret fun v w' => v = .bool (decide (0 ≤ i ∧ i < n)) ∧ Sat G (blk p [.int .i64 n, b0, b1, b2, b3, b4, b5, b6] 86 :: L) w') := by
  refine calls_of_x (args := [_, _]) func_disk_Disk_there rfl nt_disk_Disk_there rfl ?_
  refine x_seq ?_
  refine x_region rfl ?_
  refine x_as rfl rfl trivial rfl ?_  -- disk.go:69 assign False
  refine xl_nil ?_
  refine x_seq ?_
  refine x_region rfl ?_
  refine x_mv rfl rfl trivial rfl ?_  -- disk.go:69 move t1
  refine x_ge rfl rfl trivial rfl rfl ?_  -- disk.go:69 geq[3] t5 0
  refine x_mv rfl rfl trivial rfl ?_  -- disk.go:69 move t6
  refine xl_split (d := 7) rfl (fun h1 => ?_) (fun h1 => ?_)
  · -- yes
    refine x_mv rfl rfl ⟨_, rfl, rfl⟩ rfl ?_  -- disk.go:69 move t1
    refine x_mv rfl rfl ⟨_, rfl, rfl⟩ rfl ?_  -- disk.go:69 move t0
    refine x_nc rfl rfl ⟨_, rfl, rfl⟩ rfl ?_  -- disk.go:69 nilCheck t9
    refine x_fld rfl rfl ⟨_, rfl, rfl⟩ fo_disk_Disk_0 rfl ?_  -- disk.go:69 fieldAddr[86] t10 .blocks(+0)
    refine x_ld rfl rfl ⟨_, rfl, rfl⟩ rfl (Loads.blk1 one_int hw (by repeat (first | with_reducible exact Pick.here | apply Pick.there)) rfl) ?_  -- disk.go:69 load[3] t11
    refine x_lt rfl rfl ⟨_, rfl, rfl⟩ rfl rfl ?_  -- disk.go:69 lss[3] t8 t12
    refine x_pickT rfl rfl trivial rfl rfl rfl ?_  -- disk.go:69 pick t7 ? t13 : False
    refine x_as rfl rfl trivial rfl ?_  -- disk.go:69 assign t14
    refine xl_nil ?_
    refine x_ret ?_
    exact end1 rfl rfl ⟨by simp [h1], hw⟩
  · -- no
    refine xl_no rfl rfl rfl rfl rfl rfl ?_  -- passed over: move t1
    refine xl_no rfl rfl rfl rfl rfl rfl ?_  -- passed over: move t0
    refine xl_no rfl rfl rfl rfl rfl rfl ?_  -- passed over: nilCheck t9
    refine xl_no rfl rfl rfl rfl rfl rfl ?_  -- passed over: fieldAddr[86] t10 .blocks(+0)
    refine xl_no rfl rfl rfl rfl rfl rfl ?_  -- passed over: load[3] t11
    refine xl_no rfl rfl rfl rfl rfl rfl ?_  -- passed over: lss[3] t8 t12
    refine x_pickF rfl rfl trivial rfl rfl rfl ?_  -- disk.go:69 pick t7 ? t13 : False
    refine x_as rfl rfl trivial rfl ?_  -- disk.go:69 assign t14
    refine xl_nil ?_
    refine x_ret ?_
    exact end1 rfl rfl ⟨by simp [h1], hw⟩

theorem ct_disk_Disk_Off {b0 b1 b2 b3 b4 b5 b6 b7 : Value} (hw : Sat G (blk p [b0, b1, b2, b3, b4, b5, b6, b7] 86 :: L) w) :
    Calls Try.prog 33 #[.pointer (some ⟨p, 0, none⟩)] w (Ret fun v w' => v = .tuple #[] ∧ Sat G (blk p [b0, b1, b2, b3, .bool false, .int .i64 (-1), b6, b7] 86 :: L) w') := by
  refine calls_of_x (args := [_]) func_disk_Disk_Off rfl nt_disk_Disk_Off rfl ?_
  refine x_region rfl ?_
  refine x_mv rfl rfl trivial rfl ?_  -- disk.go:149 move t0
  refine x_mv rfl rfl trivial rfl ?_  -- disk.go:149 move t0
  refine x_nc rfl rfl trivial rfl ?_  -- disk.go:149 nilCheck t2
  refine x_fld rfl rfl trivial fo_disk_Disk_4 rfl ?_  -- disk.go:149 fieldAddr[86] t4 .on(+4)
  refine x_st1 (l' := [_, _, _, _, _, _, _, _]) rfl trivial rfl rfl one_bool rfl hw (by repeat (first | with_reducible exact Pick.here | apply Pick.there)) rfl rfl rfl (fun w hw => ?_)  -- disk.go:149 store[4] t5 := False
  refine x_nc rfl rfl trivial rfl ?_  -- disk.go:149 nilCheck t3
  refine x_fld rfl rfl trivial fo_disk_Disk_5 rfl ?_  -- disk.go:149 fieldAddr[86] t6 .alarm(+5)
  refine x_st1 (l' := [_, _, _, _, _, _, _, _]) rfl trivial rfl rfl one_int rfl hw (by repeat (first | with_reducible exact Pick.here | apply Pick.there)) rfl rfl rfl (fun w hw => ?_)  -- disk.go:149 store[3] t7 := -1
  refine xl_nil ?_
  exact end0 rfl ⟨rfl, hw⟩

/-- is an act done? -/
def actOk (alarm : Int) : Bool := decide (alarm ≠ 0)
theorem ct_disk_Disk_act {al : Int} {b0 b1 b2 b3 b6 b7 : Value} {on : Bool} (hw : Sat G (blk p [b0, b1, b2, b3, .bool on, .int .i64 al, b6, b7] 86 :: L) w) (hal : -1 ≤ al ∧ al ≤ 9223372036854775807) :
    Calls Try.prog 51 #[.pointer (some ⟨p, 0, none⟩)] w (Ret fun v w' => v = .bool (decide (al ≠ 0)) ∧
      Sat G (blk p [b0, b1, b2, b3, .bool (if al = 0 then false else on), .int .i64 (if al = 0 then -1 else if 0 < al then al - 1 else al), b6, b7] 86 :: L) w') := by
  refine calls_of_x (args := [_]) func_disk_Disk_act rfl nt_disk_Disk_act rfl ?_
  refine x_seq ?_
  refine x_region rfl ?_
  refine x_as rfl rfl trivial rfl ?_  -- disk.go:89 assign False
  refine xl_nil ?_
  refine x_seq ?_
  refine x_seq ?_
  refine x_region rfl ?_
  refine x_mv rfl rfl trivial rfl ?_  -- disk.go:90 move t0
  refine x_nc rfl rfl trivial rfl ?_  -- disk.go:90 nilCheck t3
  refine x_fld rfl rfl trivial fo_disk_Disk_5 rfl ?_  -- disk.go:90 fieldAddr[86] t4 .alarm(+5)
  refine x_ld rfl rfl trivial rfl (Loads.blk1 one_int hw (by repeat (first | with_reducible exact Pick.here | apply Pick.there)) rfl) ?_  -- disk.go:90 load[3] t5
  refine x_eq rfl rfl trivial rfl rfl rfl ?_  -- disk.go:90 eql[3] t6 0
  refine xl_nil ?_
  refine x_if rfl (fun h1 => ?_) (fun h1 => ?_)
  · -- yes
    refine x_seq ?_
    refine x_region rfl ?_
    refine x_mv rfl rfl trivial rfl ?_  -- disk.go:91 move t0
    refine x_call rfl rfl trivial cal_disk_Disk_Off rfl (ct_disk_Disk_Off hw) rfl (fun w v9 hv => ?_)  -- disk.go:91 call f33 (*coppice/disk.Disk).Off(t8)
    obtain ⟨rfl, hw⟩ := hv
    refine xl_nil ?_
    refine x_seq ?_
    refine x_region rfl ?_
    refine x_as rfl rfl trivial rfl ?_  -- disk.go:92 assign False
    refine xl_nil ?_
    refine x_ret ?_
    exact end1 rfl rfl ⟨by simp [h1], by rw [if_pos h1, if_pos h1]; exact hw⟩
  · -- no
    refine x_skip ?_
    refine x_seq ?_
    refine x_seq ?_
    refine x_region rfl ?_
    refine x_mv rfl rfl trivial rfl ?_  -- disk.go:94 move t0
    refine x_nc rfl rfl trivial rfl ?_  -- disk.go:94 nilCheck t10
    refine x_fld rfl rfl trivial fo_disk_Disk_5 rfl ?_  -- disk.go:94 fieldAddr[86] t11 .alarm(+5)
    refine x_ld rfl rfl trivial rfl (Loads.blk1 one_int hw (by repeat (first | with_reducible exact Pick.here | apply Pick.there)) rfl) ?_  -- disk.go:94 load[3] t12
    refine x_gt rfl rfl trivial rfl rfl ?_  -- disk.go:94 gtr[3] t13 0
    refine xl_nil ?_
    refine x_if rfl (fun h2 => ?_) (fun h2 => ?_)
    · -- yes
      refine x_region rfl ?_
      refine x_mv rfl rfl trivial rfl ?_  -- disk.go:95 move t0
      refine x_nc rfl rfl trivial rfl ?_  -- disk.go:95 nilCheck t15
      refine x_fld rfl rfl trivial fo_disk_Disk_5 rfl ?_  -- disk.go:95 fieldAddr[86] t16 .alarm(+5)
      refine x_ld rfl rfl trivial rfl (Loads.blk1 one_int hw (by repeat (first | with_reducible exact Pick.here | apply Pick.there)) rfl) ?_  -- disk.go:95 load[3] t17
      refine x_subi rfl rfl trivial rfl rfl (by omega) ?_  -- disk.go:95 sub[3] t18 1
      refine x_nc rfl rfl trivial rfl ?_  -- disk.go:95 nilCheck t15
      refine x_fld rfl rfl trivial fo_disk_Disk_5 rfl ?_  -- disk.go:95 fieldAddr[86] t20 .alarm(+5)
      refine x_st1 (l' := [_, _, _, _, _, _, _, _]) rfl trivial rfl rfl one_int rfl hw (by repeat (first | with_reducible exact Pick.here | apply Pick.there)) rfl rfl rfl (fun w hw => ?_)  -- disk.go:95 store[3] t21 := t19
      refine xl_nil ?_
      refine x_seq ?_
      refine x_region rfl ?_
      refine x_as rfl rfl trivial rfl ?_  -- disk.go:97 assign True
      refine xl_nil ?_
      refine x_ret ?_
      exact end1 rfl rfl ⟨by simp [h1], by rw [if_neg h1, if_neg h1, if_pos h2]; exact hw⟩
    · -- no
      refine x_skip ?_
      refine x_seq ?_
      refine x_region rfl ?_
      refine x_as rfl rfl trivial rfl ?_  -- disk.go:97 assign True
      refine xl_nil ?_
      refine x_ret ?_
      exact end1 rfl rfl ⟨by simp [h1], by rw [if_neg h1, if_neg h1, if_neg h2]; exact hw⟩


/-! ### The greater ones -/

def Dk.shows (D : Dk) (i : Nat) : Bys := (lastOf D.ws i).getD (blkAt D.lasts i)
def Dk.failed (D : Dk) : Dk := { D with on := false, alarm := -1 }
def Dk.tick (D : Dk) : Dk := { D with alarm := if 0 < D.alarm then D.alarm - 1 else D.alarm }

theorem Dk.Ok.failed (h : D.Ok) : D.failed.Ok := ⟨h.lo, h.hi, h.blk, h.ws, by simp [Dk.failed], fun _ => rfl, h.cnt⟩
theorem Dk.Ok.tick (h : D.Ok) (hn : D.alarm ≠ 0) : D.tick.Ok := ⟨h.lo, h.hi, h.blk, h.ws, by have := h.alarm; simp only [Dk.tick]; split <;> omega, fun ho => by have := h.off ho; simp only [Dk.tick]; omega, h.cnt⟩

theorem blkAt_length (h : D.Ok) (i : Nat) : (blkAt D.lasts i).length = 512 := by
  unfold blkAt
  rw [List.getD_eq_getElem?_getD]
  cases hx : D.lasts[i]? with
  | none => exact zb_length
  | some c => exact h.blk c (List.mem_of_getElem? hx)
theorem shows_length (h : D.Ok) (i : Nat) : (D.shows i).length = 512 := by
  unfold Dk.shows
  cases hx : lastOf D.ws i with
  | none => exact blkAt_length h i
  | some c => exact (h.ws _ (lastOf_mem hx)).2

theorem getD_blkv (o : Option Bys) : (o.map blkv).getD (.agg (rep 512 (.int .u8 0)).toArray) = blkv (o.getD zb) := by
  cases o
  · show Value.agg _ = Value.agg _; rw [← bys_zb]; rfl
  · rfl
theorem LastM.getD {kv : KV} {l : List Bys} (h : LastM kv l) {i : Nat} (hi : i < l.length) : (klook kv i).getD (.agg (rep 512 (.int .u8 0)).toArray) = blkv (blkAt l i) := by
  rw [h.look]
  by_cases hz : blkAt l i = zb
  · rw [if_neg (by simp [hz]), Option.getD_none, hz, blkv, bys_zb]
  · rw [if_pos (by simp [hz, hi])]; rfl

theorem take_all {c : Bys} (hc : c.length = 512) (l : List Value) (hl : l.length = 512) : l.take 0 ++ bys c ++ l.drop (0 + (bys c).length) = bys c := by
  rw [bys_length, hc, List.drop_eq_nil_of_le (by omega)]; simp

theorem ct_disk_Disk_Read {i : Int} (hw : Sat G (dsk p D :: L) w) : Calls Try.prog 40 #[.pointer (some ⟨p, 0, none⟩), .int .i64 i] w (Ret fun v w' =>
    (D.on = false ∧ v = .tuple #[.slice none 0 0, .int .i64 17] ∧ Sat G (dsk p D :: L) w') ∨
    (D.on = true ∧ ¬ (0 ≤ i ∧ i < D.lasts.length) ∧ v = .tuple #[.slice none 0 0, .int .i64 16] ∧ Sat G (dsk p D :: L) w') ∨
    (D.on = true ∧ (0 ≤ i ∧ i < D.lasts.length) ∧ ∃ s, v = .tuple #[s, .int .i64 0] ∧ Sat G (row 5 1 s 512 (bys (D.shows i.toNat)) :: dsk p D :: L) w')) := by
  obtain ⟨hok, ml, ms, sv, kl, ks, hl, hs, hw⟩ := dsk_open hw
  simp only [dparts, dcells, List.cons_append, List.nil_append] at hw
  refine calls_of_x (args := [_, _]) func_disk_Disk_Read rfl nt_disk_Disk_Read rfl ?_
  refine x_seq ?_
  refine x_region rfl ?_
  refine x_as rfl rfl trivial rfl ?_  -- disk.go:72 assign {'nilslice': 1}
  refine x_as rfl rfl trivial rfl ?_  -- disk.go:72 assign 0
  refine xl_nil ?_
  refine x_seq ?_
  refine x_block ?_
  refine x_seq ?_
  refine x_region rfl ?_
  refine x_mv rfl rfl trivial rfl ?_  -- disk.go:74 move t0
  refine x_nc rfl rfl trivial rfl ?_  -- disk.go:74 nilCheck t10
  refine x_fld rfl rfl trivial fo_disk_Disk_4 rfl ?_  -- disk.go:74 fieldAddr[86] t11 .on(+4)
  refine x_ld rfl rfl trivial rfl (Loads.blk1 one_bool hw (by repeat (first | with_reducible exact Pick.here | apply Pick.there)) rfl) ?_  -- disk.go:74 load[4] t12
  -- disk.go:74 unOp "not" 4 13
  refine x_not rfl rfl trivial rfl ?_
  refine x_as rfl rfl trivial rfl ?_  -- disk.go:74 assign t14
  refine xl_nil ?_
  refine x_cond rfl (fun h1 => ?_) (fun h1 => ?_)
  · -- yes
    refine x_seq ?_
    refine x_region rfl ?_
    refine x_as rfl rfl trivial rfl ?_  -- disk.go:75 assign {'nilslice': 1}
    refine x_as rfl rfl trivial rfl ?_  -- disk.go:75 assign 17
    refine xl_nil ?_
    refine x_ret ?_
    exact end2 rfl rfl rfl (.inl ⟨by simpa using h1, rfl, dsk_shut hok hl hs hw⟩)
  · -- no
    refine x_seq ?_
    refine x_region rfl ?_
    refine x_mv rfl rfl trivial rfl ?_  -- disk.go:76 move t0
    refine x_mv rfl rfl trivial rfl ?_  -- disk.go:76 move t1
    refine x_call rfl rfl trivial cal_disk_Disk_there rfl (ct_disk_Disk_there hw) rfl (fun w v18 hv => ?_)  -- disk.go:76 call f54 (*coppice/disk.Disk).there(t16, t17)
    obtain ⟨rfl, hw⟩ := hv
    refine x_notp rfl rfl trivial rfl ?_  -- disk.go:76 unOp "not" 4 18
    refine x_as rfl rfl trivial rfl ?_  -- disk.go:76 assign t19
    refine xl_nil ?_
    refine x_if rfl (fun h2 => ?_) (fun h2 => ?_)
    · -- yes
      refine x_seq ?_
      refine x_region rfl ?_
      refine x_as rfl rfl trivial rfl ?_  -- disk.go:77 assign {'nilslice': 1}
      refine x_as rfl rfl trivial rfl ?_  -- disk.go:77 assign 16
      refine xl_nil ?_
      refine x_ret ?_
      exact end2 rfl rfl rfl (.inr (.inl ⟨by simpa using h1, h2, rfl, dsk_shut hok hl hs hw⟩))
    · -- no
      have hin : 0 ≤ i ∧ i < D.lasts.length := Decidable.not_not.1 h2
      obtain ⟨j, rfl⟩ := Int.eq_ofNat_of_zero_le hin.1
      have hj : j < D.lasts.length := by omega
      have hq : klook ks (j : Int) = (lastOf D.ws j).map blkv := by rw [hs.look, if_pos hin.1]; rfl
      have hxl : ((lastOf D.ws j).getD zb).length = 512 := by
        cases hx : lastOf D.ws j with
        | none => exact zb_length
        | some c => exact (hok.ws _ (lastOf_mem hx)).2
      refine x_skip ?_
      refine x_seq ?_
      refine x_region rfl ?_
      refine x_mv rfl rfl trivial rfl ?_  -- disk.go:79 move t0
      refine x_nc rfl rfl trivial rfl ?_  -- disk.go:79 nilCheck t21
      refine x_fld rfl rfl trivial fo_disk_Disk_3 rfl ?_  -- disk.go:79 fieldAddr[86] t22 .shown(+3)
      refine x_ld rfl rfl trivial rfl (Loads.blk1 one_m_int_disk_block hw (by repeat (first | with_reducible exact Pick.here | apply Pick.there)) rfl) ?_  -- disk.go:79 load[83] t23
      refine x_mv rfl rfl trivial rfl ?_  -- disk.go:79 move t1
      -- disk.go:79 lookup[83] t24 [t25] True
      refine x_lk2 rfl rfl trivial U_m_int_disk_block U_int zv_disk_block rfl rfl hw (by repeat (first | with_reducible exact Pick.here | apply Pick.there)) (v0 := blkv ((lastOf D.ws j).getD zb)) (b0 := (lastOf D.ws j).isSome) (by rw [hq]; exact getD_blkv _) (by rw [hq]; exact Option.isSome_map) ?_
      refine x_mv rfl rfl trivial rfl ?_  -- disk.go:79 move t26
      refine x_ext rfl rfl trivial rfl rfl ?_  -- disk.go:79 extract t20 .0
      refine x_ext rfl rfl trivial rfl rfl ?_  -- disk.go:79 extract t20 .1
      refine x_alloc rfl rfl trivial z_disk_block hw rfl (fun w b6 hw => ?_)  -- disk.go:79 alloc 78
      -- disk.go:79 store[78] t6 := t27
      refine x_stN (cs := bys ((lastOf D.ws j).getD zb)) (l' := bys ((lastOf D.ws j).getD zb)) rfl trivial rfl rfl many_disk_block (by rw [bys_length, hxl]) (ones_bys _) hw (by repeat (first | with_reducible exact Pick.here | apply Pick.there)) (by rw [rep_length]; decide) (by rw [List.drop_eq_nil_of_le (by rw [rep_length]; decide)]; simp) rfl (fun w hw => ?_)
      refine x_as rfl rfl trivial rfl ?_  -- disk.go:79 assign t28
      refine xl_nil ?_
      refine x_seq ?_
      refine x_seq ?_
      refine x_region rfl ?_
      refine x_mv rfl rfl trivial rfl ?_  -- disk.go:80 move t7
      -- disk.go:80 unOp "not" 4 29
      refine x_not rfl rfl trivial rfl ?_
      refine xl_nil ?_
      refine x_cond rfl (fun h3 => ?_) (fun h3 => ?_)
      · -- yes
        have hn : lastOf D.ws j = none := by simpa using h3
        have hsh : D.shows j = blkAt D.lasts j := by unfold Dk.shows; rw [hn]; rfl
        have hbl := blkAt_length hok j
        refine x_region rfl ?_
        refine x_mv rfl rfl trivial rfl ?_  -- disk.go:81 move t0
        refine x_nc rfl rfl trivial rfl ?_  -- disk.go:81 nilCheck t31
        refine x_fld rfl rfl trivial fo_disk_Disk_1 rfl ?_  -- disk.go:81 fieldAddr[86] t32 .last(+1)
        refine x_ld rfl rfl trivial rfl (Loads.blk1 one_m_int_disk_block hw (by repeat (first | with_reducible exact Pick.here | apply Pick.there)) rfl) ?_  -- disk.go:81 load[83] t33
        refine x_mv rfl rfl trivial rfl ?_  -- disk.go:81 move t1
        -- disk.go:81 lookup[83] t34 [t35] False
        refine x_lk1 rfl rfl trivial U_m_int_disk_block U_int zv_disk_block rfl rfl hw (by repeat (first | with_reducible exact Pick.here | apply Pick.there)) (v0 := blkv (blkAt D.lasts j)) (hl.getD hj) ?_
        -- disk.go:81 store[78] t6 := t36
        refine x_stN (cs := bys (blkAt D.lasts j)) (l' := bys (blkAt D.lasts j)) rfl trivial rfl rfl many_disk_block (by rw [bys_length, hbl]) (ones_bys _) hw (by repeat (first | with_reducible exact Pick.here | apply Pick.there)) (by simp [bys_length, hxl]) (by rw [List.drop_eq_nil_of_le (by simp [bys_length, hxl])]; simp) rfl (fun w hw => ?_)
        refine xl_nil ?_
        refine x_seq ?_
        refine x_region rfl ?_
        refine x_mks rfl rfl trivial U_sl_uint8 sz_uint8 by_uint8 z_uint8 rfl rfl ⟨by omega, by omega⟩ (by omega) (by omega) hw rfl (fun w b37 hw => ?_)  -- disk.go:83 makeSlice 23 512 512
        refine x_as rfl rfl trivial rfl ?_  -- disk.go:83 assign t37
        refine xl_nil ?_
        refine x_seq ?_
        refine x_region rfl ?_
        refine x_mv rfl rfl trivial rfl ?_  -- disk.go:84 move t8
        refine x_cutA rfl rfl trivial U_disk_block szs_uint8 (by decide) rfl rfl ?_  -- disk.go:84 slice[78] t6 [-:-:-]
        -- disk.go:84 copy(t38, t39)
        refine x_cp (cs := bys (blkAt D.lasts j)) (l' := bys (blkAt D.lasts j)) rfl rfl trivial U_sl_uint8 sz_uint8 rfl rfl hw (by repeat (first | with_reducible exact Pick.here | apply Pick.there)) (Rd.blk0 hw (by repeat (first | with_reducible exact Pick.here | apply Pick.there))) (by rw [bys_length, hbl]; rfl) (ones_bys _) (by rw [bys_length, hbl]; simp) (take_all hbl _ (by simp [rep_length])) (by kernel_rfl) (fun w hw => ?_)
        refine xl_nil ?_
        refine x_seq ?_
        refine x_region rfl ?_
        refine x_mv rfl rfl trivial rfl ?_  -- disk.go:85 move t8
        refine x_as rfl rfl trivial rfl ?_  -- disk.go:85 assign t41
        refine x_as rfl rfl trivial rfl ?_  -- disk.go:85 assign 0
        refine xl_nil ?_
        refine x_ret ?_
        exact end2 rfl rfl rfl (.inr (.inr ⟨by simpa using h1, hin, _, rfl, by
  have h := hw.picks (As := [blk p _ _, mapI ml _, mapI ms _, row _ _ _ _ _, blk b37 _ _]) (by repeat (first | exact Picks.nil | (apply Picks.cons; repeat (first | with_reducible exact Pick.here | apply Pick.there))))
  have h := dsk_shut hok hl hs (h.drop (.there (.there (.there (.there (.there .here))))))
  have h := h.pick (A := blk b37 _ _) (by repeat (first | with_reducible exact Pick.here | apply Pick.there))
  have h := row_full (z := 1) (m := 512) h (by rw [bys_length, hbl]) (by simp only [maxLen]; omega)
  rw [← hsh] at h; exact h⟩))
      · -- no
        obtain ⟨c, hn⟩ : ∃ c, lastOf D.ws j = some c := by cases hx : lastOf D.ws j with
          | none => simp [hx] at h3
          | some c => exact ⟨c, rfl⟩
        have hsh : D.shows j = c := by unfold Dk.shows; rw [hn]; rfl
        rw [hn] at hw hxl
        simp only [Option.getD_some] at hw hxl
        refine x_skip ?_
        refine x_seq ?_
        refine x_region rfl ?_
        refine x_mks rfl rfl trivial U_sl_uint8 sz_uint8 by_uint8 z_uint8 rfl rfl ⟨by omega, by omega⟩ (by omega) (by omega) hw rfl (fun w b37 hw => ?_)  -- disk.go:83 makeSlice 23 512 512
        refine x_as rfl rfl trivial rfl ?_  -- disk.go:83 assign t37
        refine xl_nil ?_
        refine x_seq ?_
        refine x_region rfl ?_
        refine x_mv rfl rfl trivial rfl ?_  -- disk.go:84 move t8
        refine x_cutA rfl rfl trivial U_disk_block szs_uint8 (by decide) rfl rfl ?_  -- disk.go:84 slice[78] t6 [-:-:-]
        -- disk.go:84 copy(t38, t39)
        refine x_cp (cs := bys c) (l' := bys c) rfl rfl trivial U_sl_uint8 sz_uint8 rfl rfl hw (by repeat (first | with_reducible exact Pick.here | apply Pick.there)) (Rd.blk0 hw (by repeat (first | with_reducible exact Pick.here | apply Pick.there))) (by rw [bys_length, hxl]; rfl) (ones_bys _) (by rw [bys_length, hxl]; simp) (take_all hxl _ (by simp [rep_length])) (by kernel_rfl) (fun w hw => ?_)
        refine xl_nil ?_
        refine x_seq ?_
        refine x_region rfl ?_
        refine x_mv rfl rfl trivial rfl ?_  -- disk.go:85 move t8
        refine x_as rfl rfl trivial rfl ?_  -- disk.go:85 assign t41
        refine x_as rfl rfl trivial rfl ?_  -- disk.go:85 assign 0
        refine xl_nil ?_
        refine x_ret ?_
        exact end2 rfl rfl rfl (.inr (.inr ⟨by simpa using h1, hin, _, rfl, by
  have h := hw.picks (As := [blk p _ _, mapI ml _, mapI ms _, row _ _ _ _ _, blk b37 _ _]) (by repeat (first | exact Picks.nil | (apply Picks.cons; repeat (first | with_reducible exact Pick.here | apply Pick.there))))
  have h := dsk_shut hok hl hs (h.drop (.there (.there (.there (.there (.there .here))))))
  have h := h.pick (A := blk b37 _ _) (by repeat (first | with_reducible exact Pick.here | apply Pick.there))
  have h := row_full (z := 1) (m := 512) h (by rw [bys_length, hxl]) (by simp only [maxLen]; omega)
  rw [← hsh] at h; exact h⟩))


theorem z_disk_write : zeroOf Try.prog 89 = some (Value.int .i64 0 :: rep 512 (.int .u8 0)).toArray := by kernel_rfl

/-- a write that is done -/
def Dk.wr (D : Dk) (i : Nat) (l : Bys) : Dk := ⟨D.lasts, D.ws ++ [(i, l)], D.on, D.tick.alarm, D.wrote + 1, D.synced⟩
def Dk.write (D : Dk) (i : Int) (l : Bys) : Int × Dk :=
  if D.on = false then (17, D) else if ¬ (0 ≤ i ∧ i < D.lasts.length) then (16, D) else if l.length ≠ 512 then (1, D)
  else if D.alarm = 0 then (17, D.failed) else (0, D.wr i.toNat l)

theorem Dk.Ok.write (h : D.Ok) {i : Nat} (hi : i < D.lasts.length) {l : Bys} (hl : l.length = 512) (hn : D.alarm ≠ 0) : (D.wr i l).Ok := by
  have ht := h.tick hn
  refine ⟨h.lo, h.hi, h.blk, fun x hx => ?_, ht.alarm, ht.off, by simp [Dk.wr]; exact h.cnt⟩
  rcases List.mem_append.1 hx with hx | hx
  · exact h.ws x hx
  · simp at hx; subst hx; exact ⟨hi, hl⟩

theorem ones_w (x : Nat × Bys) : Ones (wcells x) := fun u hu => by
  rcases List.mem_cons.1 hu with rfl | hu
  · rfl
  · exact ones_bys _ u hu
theorem ones_w0 (j : Nat) : Ones (Value.int .i64 j :: rep 512 (.int .u8 0)) := by have := ones_w (j, zb); rwa [wcells, bys_zb] at this

theorem ct_disk_Disk_Write {i : Int} {v : Value} {l : Bys} (hw : Sat G (dsk p D :: L) w) (ka : Knows L (SlB v l)) (hll : l.length ≤ 140737488355328) (hcnt : D.wrote < 1000000000) :
    Calls Try.prog 25 #[.pointer (some ⟨p, 0, none⟩), .int .i64 i, v] w (Ret fun r w' => r = .int .i64 (D.write i l).1 ∧ Sat G (dsk p (D.write i l).2 :: L) w') := by
  obtain ⟨a, cap, rfl⟩ := ((ka.of (by repeat (first | exact Suf.refl _ | apply Suf.cons))).at hw).form
  obtain ⟨hok, ml, ms, sv, kl, ks, hl, hs, hw⟩ := dsk_open hw
  simp only [dparts, dcells, List.cons_append, List.nil_append] at hw
  refine calls_of_x (args := [_, _, _]) func_disk_Disk_Write rfl nt_disk_Disk_Write rfl ?_
  refine x_seq ?_
  refine x_region rfl ?_
  refine x_as rfl rfl trivial rfl ?_  -- disk.go:101 assign 0
  refine xl_nil ?_
  refine x_seq ?_
  refine x_block ?_
  refine x_seq ?_
  refine x_region rfl ?_
  refine x_mv rfl rfl trivial rfl ?_  -- disk.go:103 move t0
  refine x_nc rfl rfl trivial rfl ?_  -- disk.go:103 nilCheck t9
  refine x_fld rfl rfl trivial fo_disk_Disk_4 rfl ?_  -- disk.go:103 fieldAddr[86] t10 .on(+4)
  refine x_ld rfl rfl trivial rfl (Loads.blk1 one_bool hw (by repeat (first | with_reducible exact Pick.here | apply Pick.there)) rfl) ?_  -- disk.go:103 load[4] t11
  -- disk.go:103 unOp "not" 4 12
  refine x_not rfl rfl trivial rfl ?_
  refine x_as rfl rfl trivial rfl ?_  -- disk.go:103 assign t13
  refine xl_nil ?_
  refine x_cond rfl (fun h1 => ?_) (fun h1 => ?_)
  · -- yes
    have hon : D.on = false := by simpa using h1
    refine x_seq ?_
    refine x_region rfl ?_
    refine x_as rfl rfl trivial rfl ?_  -- disk.go:104 assign 17
    refine xl_nil ?_
    refine x_ret ?_
    exact end1 rfl rfl (by unfold Dk.write; rw [if_pos hon]; exact ⟨rfl, dsk_shut hok hl hs hw⟩)
  · -- no
    have hon : D.on = true := by simpa using h1
    have hon' : ¬ D.on = false := by simp [hon]
    refine x_seq ?_
    refine x_region rfl ?_
    refine x_mv rfl rfl trivial rfl ?_  -- disk.go:105 move t0
    refine x_mv rfl rfl trivial rfl ?_  -- disk.go:105 move t1
    refine x_call rfl rfl trivial cal_disk_Disk_there rfl (ct_disk_Disk_there hw) rfl (fun w v17 hv => ?_)  -- disk.go:105 call f54 (*coppice/disk.Disk).there(t15, t16)
    obtain ⟨rfl, hw⟩ := hv
    refine x_notp rfl rfl trivial rfl ?_  -- disk.go:105 unOp "not" 4 17
    refine x_as rfl rfl trivial rfl ?_  -- disk.go:105 assign t18
    refine xl_nil ?_
    refine x_if rfl (fun h2 => ?_) (fun h2 => ?_)
    · -- yes
      refine x_seq ?_
      refine x_region rfl ?_
      refine x_as rfl rfl trivial rfl ?_  -- disk.go:106 assign 16
      refine xl_nil ?_
      refine x_ret ?_
      exact end1 rfl rfl (by unfold Dk.write; rw [if_neg hon', if_pos h2]; exact ⟨rfl, dsk_shut hok hl hs hw⟩)
    · -- no
      have hin : 0 ≤ i ∧ i < D.lasts.length := Decidable.not_not.1 h2
      obtain ⟨j, rfl⟩ := Int.eq_ofNat_of_zero_le hin.1
      have hj : j < D.lasts.length := by omega
      refine x_seq ?_
      refine x_region rfl ?_
      refine x_mv rfl rfl trivial rfl ?_  -- disk.go:107 move t2
      refine x_len rfl rfl trivial rfl U_sl_uint8 rfl ?_  -- disk.go:107 len(t20)
      refine x_ne rfl rfl trivial rfl rfl rfl ?_  -- disk.go:107 neq[3] t21 512
      refine x_as rfl rfl trivial rfl ?_  -- disk.go:107 assign t22
      refine xl_nil ?_
      refine x_if rfl (fun h3 => ?_) (fun h3 => ?_)
      · -- yes
        refine x_seq ?_
        refine x_region rfl ?_
        refine x_as rfl rfl trivial rfl ?_  -- disk.go:108 assign 1
        refine xl_nil ?_
        refine x_ret ?_
        exact end1 rfl rfl (by unfold Dk.write; rw [if_neg hon', if_neg h2, if_pos (by omega)]; exact ⟨rfl, dsk_shut hok hl hs hw⟩)
      · -- no
        have hl5 : l.length = 512 := by omega
        have hl5' : ¬ l.length ≠ 512 := by omega
        refine x_seq ?_
        refine x_region rfl ?_
        refine x_mv rfl rfl trivial rfl ?_  -- disk.go:109 move t0
        refine x_call rfl rfl trivial cal_disk_Disk_act rfl (ct_disk_Disk_act hw hok.alarm) rfl (fun w v25 hv => ?_)  -- disk.go:109 call f51 (*coppice/disk.Disk).act(t24)
        obtain ⟨rfl, hw⟩ := hv
        refine x_notp rfl rfl trivial rfl ?_  -- disk.go:109 unOp "not" 4 25
        refine x_as rfl rfl trivial rfl ?_  -- disk.go:109 assign t26
        refine xl_nil ?_
        refine x_if rfl (fun h4 => ?_) (fun h4 => ?_)
        · -- yes
          refine x_seq ?_
          refine x_region rfl ?_
          refine x_as rfl rfl trivial rfl ?_  -- disk.go:110 assign 17
          refine xl_nil ?_
          refine x_ret ?_
          exact end1 rfl rfl (by
  have h0 : D.alarm = 0 := Decidable.not_not.1 h4
  rw [if_pos h0, if_pos h0] at hw
  unfold Dk.write; rw [if_neg hon', if_neg h2, if_neg hl5', if_pos h0]; exact ⟨rfl, dsk_shut (D := D.failed) hok.failed hl hs hw⟩)
        · -- no
          have h0 : D.alarm ≠ 0 := Decidable.not_not.1 h4
          rw [if_neg h0, if_neg h0] at hw
          obtain ⟨b, o, rfl⟩ := ((ka.of (by repeat (first | exact Suf.refl _ | apply Suf.cons))).at hw).nn (by omega)
          refine x_skip ?_
          refine x_seq ?_
          refine x_region rfl ?_
          refine x_mv rfl rfl trivial rfl ?_  -- disk.go:112 move t1
          -- disk.go:112 build 89 [[0, 27]]
          refine x_build (v := .agg (Value.int .i64 j :: rep 512 (.int .u8 0)).toArray) rfl rfl trivial rfl (fun w => by kernel_rfl) ?_
          refine x_alloc rfl rfl trivial z_disk_write hw rfl (fun w b7 hw => ?_)  -- disk.go:112 alloc 89
          -- disk.go:112 store[89] t7 := t28
          refine x_stN (cs := Value.int .i64 j :: rep 512 (.int .u8 0)) (l' := Value.int .i64 j :: rep 512 (.int .u8 0)) rfl trivial rfl rfl many_disk_write (by simp) (ones_w0 j) hw (by repeat (first | with_reducible exact Pick.here | apply Pick.there)) (by simp) (by rw [List.drop_eq_nil_of_le (by simp)]; simp) rfl (fun w hw => ?_)
          refine xl_nil ?_
          refine x_seq ?_
          refine x_region rfl ?_
          refine x_fld rfl rfl trivial fo_disk_write_1 rfl ?_  -- disk.go:113 fieldAddr[89] t7 .b(+1)
          refine x_cutA rfl rfl trivial U_disk_block szs_uint8 (by decide) rfl rfl ?_  -- disk.go:113 slice[78] t29 [-:-:-]
          refine x_mv rfl rfl trivial rfl ?_  -- disk.go:113 move t2
          -- disk.go:113 copy(t30, t31)
          refine x_cp (cs := bys l) (l' := wcells (j, l)) rfl rfl trivial U_sl_uint8 sz_uint8 rfl rfl hw (by repeat (first | with_reducible exact Pick.here | apply Pick.there)) ((ka.of (by repeat (first | exact Suf.refl _ | apply Suf.cons))).at hw).rd (by rw [bys_length, hl5]; rfl) (ones_bys _) (by simp [bys_length, hl5]) (by rw [bys_length, hl5, List.drop_eq_nil_of_le (by simp)]; simp [wcells]) rfl (fun w hw => ?_)
          refine xl_nil ?_
          refine x_seq ?_
          refine x_draw [0, 1, 2, 3, 4, 5, 6, 7, 8, 9, 10] mixed (by kernel_rfl) ?_  -- region 11
          replace hw := hw.drawn (w.drawn + 1)
          refine x_mv rfl rfl trivial rfl ?_  -- disk.go:114 move t0
          refine x_mv rfl rfl trivial rfl ?_  -- disk.go:114 move t0
          refine x_nc rfl rfl trivial rfl ?_  -- disk.go:114 nilCheck t34
          refine x_fld rfl rfl trivial fo_disk_Disk_2 rfl ?_  -- disk.go:114 fieldAddr[86] t35 .writes(+2)
          refine x_ld rfl rfl trivial rfl (Loads.blk1 one_sl_disk_write hw (by repeat (first | with_reducible exact Pick.here | apply Pick.there)) rfl) ?_  -- disk.go:114 load[84] t36
          refine x_ld rfl rfl trivial rfl (Loads.blkA many_disk_write hw (by repeat (first | with_reducible exact Pick.here | apply Pick.there)) (by simp [wcells, bys_length, hl5])) ?_  -- disk.go:114 load[89] t7
          -- disk.go:114 buildSlice 84 1 [[0, 38]]
          refine x_bs1P (cs := wcells (j, l)) rfl rfl trivial U_sl_disk_write sz_disk_write zs_disk_write (by decide) rfl rfl (by simp [wcells, bys_length, hl5]) hw (fun w b hw q hq => ?_) (fun w b39 hw => ?_)
          · obtain rfl := pend_one (q0 := 4) (by kernel_rfl) hq
            exact chk_ld rfl rfl rfl (Loads.blk1 one_sl_disk_write hw (by repeat (first | with_reducible exact Pick.here | apply Pick.there)) rfl)
          -- disk.go:114 append(t37, t39)
          refine x_app (m := D.ws.length) (k := 1) (news := wcells (j, l)) rfl rfl trivial U_sl_disk_write sz_disk_write by_disk_write zs_disk_write rfl rfl hw (by repeat (first | with_reducible exact Pick.here | apply Pick.there)) (Rd.blk0 hw (by repeat (first | with_reducible exact Pick.here | apply Pick.there))) (by simp [wcells, bys_length, hl5]) (ones_w (j, l)) (by have := hok.cnt; simp only [maxLen]; omega) (by have := hok.cnt; omega) (by kernel_rfl) (fun w v40 hw => ?_)
          obtain ⟨a40, c40, rfl⟩ := row_form hw
          refine x_nc rfl rfl trivial rfl ?_  -- disk.go:114 nilCheck t33
          refine x_fld rfl rfl trivial fo_disk_Disk_2 rfl ?_  -- disk.go:114 fieldAddr[86] t41 .writes(+2)
          refine x_st1 (l' := [_, _, _, _, _, _, _, _]) rfl trivial rfl rfl one_sl_disk_write rfl hw (by repeat (first | with_reducible exact Pick.here | apply Pick.there)) rfl rfl (by kernel_rfl) (fun w hw => ?_)  -- disk.go:114 store[84] t42 := t40
          refine xl_nil ?_
          refine x_seq ?_
          refine x_draw [0, 1, 2, 3, 4, 5, 6, 7] mixed (by kernel_rfl) ?_  -- region 12
          replace hw := hw.drawn (w.drawn + 1)
          refine x_mv rfl rfl trivial rfl ?_  -- disk.go:115 move t0
          refine x_nc rfl rfl trivial rfl ?_  -- disk.go:115 nilCheck t43
          refine x_fld rfl rfl trivial fo_disk_Disk_3 rfl ?_  -- disk.go:115 fieldAddr[86] t44 .shown(+3)
          refine x_ld rfl rfl trivial rfl (Loads.blk1 one_m_int_disk_block hw (by repeat (first | with_reducible exact Pick.here | apply Pick.there)) rfl) ?_  -- disk.go:115 load[83] t45
          refine x_mv rfl rfl trivial rfl ?_  -- disk.go:115 move t1
          refine x_fld rfl rfl trivial fo_disk_write_1 rfl ?_  -- disk.go:115 fieldAddr[89] t7 .b(+1)
          refine x_ld rfl rfl trivial rfl (Loads.blkN (cs := bys l) many_disk_block hw (by repeat (first | with_reducible exact Pick.here | apply Pick.there)) (by simp [wcells, bys_length, hl5]; rw [List.take_of_length_le (by simp [bys_length, hl5])]) (by simp [bys_length, hl5])) ?_  -- disk.go:115 load[78] t48
          refine x_mu rfl trivial U_m_int_disk_block U_int rfl rfl rfl hw (by repeat (first | with_reducible exact Pick.here | apply Pick.there)) (by kernel_rfl) (fun w hw => ?_)  -- disk.go:115 mapUpdate 83 46 47 49
          refine xl_nil ?_
          refine x_seq ?_
          refine x_region rfl ?_
          refine x_mv rfl rfl trivial rfl ?_  -- disk.go:116 move t0
          refine x_nc rfl rfl trivial rfl ?_  -- disk.go:116 nilCheck t50
          refine x_fld rfl rfl trivial fo_disk_Disk_6 rfl ?_  -- disk.go:116 fieldAddr[86] t51 .wrote(+6)
          refine x_ld rfl rfl trivial rfl (Loads.blk1 one_int hw (by repeat (first | with_reducible exact Pick.here | apply Pick.there)) rfl) ?_  -- disk.go:116 load[3] t52
          refine x_addi rfl rfl trivial rfl rfl (by omega) ?_  -- disk.go:116 add[3] t53 1
          refine x_nc rfl rfl trivial rfl ?_  -- disk.go:116 nilCheck t50
          refine x_fld rfl rfl trivial fo_disk_Disk_6 rfl ?_  -- disk.go:116 fieldAddr[86] t55 .wrote(+6)
          refine x_st1 (l' := [_, _, _, _, _, _, _, _]) rfl trivial rfl rfl one_int rfl hw (by repeat (first | with_reducible exact Pick.here | apply Pick.there)) rfl rfl rfl (fun w hw => ?_)  -- disk.go:116 store[3] t56 := t54
          refine xl_nil ?_
          refine x_seq ?_
          refine x_region rfl ?_
          refine x_as rfl rfl trivial rfl ?_  -- disk.go:117 assign 0
          refine xl_nil ?_
          refine x_ret ?_
          exact end1 rfl rfl (by
  unfold Dk.write; rw [if_neg hon', if_neg h2, if_neg hl5', if_neg h0]
  refine ⟨rfl, dsk_shut (D := D.wr j l) (ml := ml) (ms := ms) (sv := .slice a40 (D.ws.length + 1) c40) (hok.write hj hl5 h0) hl (hs.put j l) ?_⟩
  have h := hw.picks (As := [blk p _ _, mapI ml _, mapI ms _, row _ _ _ _ _]) (by repeat (first | exact Picks.nil | (apply Picks.cons; repeat (first | with_reducible exact Pick.here | apply Pick.there))))
  have h := h.drop (.there (.there (.there (.there (Pick.here (A := blk b39 _ _))))))
  have h := h.drop (.there (.there (.there (.there (Pick.here (A := blk b7 _ _))))))
  refine h.of_eq ?_
  simp [dparts, dcells, Dk.wr, Dk.tick, List.flatMap_append, blkv])

end
end Go.Proofs.Ytekilljcoplacaa.X
