/- The helpers of the laws of layer 6: whole, the document's From; DiskTaken, walked. -/
import Derived.Test.YtekilljcoplacaaXLaw6
namespace Go.Proofs.Ytekilljcoplacaa.X
set_option linter.unusedVariables false
set_option linter.unusedSimpArgs false

/-- all that a disk shows -/
def Dk.wholeB (D : Dk) (k : Nat) : Bys := ((List.range k).map D.shows).flatten
theorem wholeB_succ (D : Dk) (k : Nat) : D.wholeB (k + 1) = D.wholeB k ++ D.shows k := by
  simp [Dk.wholeB, List.range_succ]

section
variable {G : Gh} {L R : List Assn} {w : World} {p : Nat} {D : Dk}

theorem ct_law06_whole (hw : Sat G (dsk p D :: L) w) (hon : D.on = true) :
    Calls Try.prog 21 #[.pointer (some ⟨p, 0, none⟩)] w (Ret fun v w' => Sat G (row 5 1 v (D.lasts.length * 512) (bys (D.wholeB D.lasts.length)) :: dsk p D :: L) w') := by
  have hok := (dsk_open hw).1
  have hhi := hok.hi
  have hw := row_nil hw 5 1
  refine calls_of_x (args := [_]) func_law06_whole rfl nt_law06_whole rfl ?_
  refine x_seq ?_
  refine x_region rfl ?_
  refine x_as rfl rfl trivial rfl ?_  -- law.go:205 assign {'nilslice': 1}
  refine xl_nil ?_
  refine x_seq ?_
  refine x_region rfl ?_
  refine x_as rfl rfl trivial rfl ?_  -- law.go:206 assign {'nilslice': 1}
  refine xl_nil ?_
  refine x_seq ?_
  refine x_seq ?_
  refine x_region rfl ?_
  refine x_as rfl rfl trivial rfl ?_  -- law.go:207 assign 0
  refine xl_nil ?_
  refine x_block ?_
  refine x_loop (fun m e w => ∃ (k : Nat) (u : Value), k ≤ D.lasts.length ∧ m = D.lasts.length - k ∧ e = [(0, .pointer (some ⟨p, 0, none⟩)), (3, u), (4, .int .i64 k)] ∧ Sat G (row 5 1 u (k * 512) (bys (D.wholeB k)) :: dsk p D :: L) w)
    (m := D.lasts.length) (e₀ := [(0, .pointer (some ⟨p, 0, none⟩)), (3, .slice none 0 0), (4, .int .i64 (0 : Nat))]) (by repeat (first | exact Sub.nil _ | refine Sub.cons rfl ?_))
    ⟨0, _, Nat.zero_le _, rfl, rfl, hw⟩ ?_
  rintro m e w ⟨k, u, hk, rfl, rfl, hw⟩
  refine x_seq ?_
  refine x_seq ?_
  refine x_region rfl ?_
  refine x_mv rfl rfl trivial rfl ?_  -- law.go:207 move t4
  refine x_mv rfl rfl trivial rfl ?_  -- law.go:207 move t0
  refine x_call rfl rfl trivial cal_disk_Disk_Blocks rfl (ct_disk_Disk_Blocks (D := D) (hw.pick (by repeat (first | with_reducible exact Pick.here | apply Pick.there)))) rfl (fun w v9 hv => ?_)  -- law.go:207 call f29 (*coppice/disk.Disk).Blocks(t8)
  obtain ⟨rfl, hw⟩ := hv
  refine x_lt rfl rfl trivial rfl rfl ?_  -- law.go:207 lss[3] t7 t9
  refine x_mv rfl rfl trivial rfl ?_  -- law.go:207 move t10
  refine xl_split (d := 11) rfl (fun h1 => ?_) (fun h1 => ?_)
  · -- yes
    refine x_mv rfl rfl ⟨_, rfl, rfl⟩ rfl ?_  -- law.go:207 move t4
    refine x_le rfl rfl ⟨_, rfl, rfl⟩ rfl rfl ?_  -- law.go:207 leq[3] t12 65536
    refine x_pickT rfl rfl trivial rfl rfl rfl ?_  -- law.go:207 pick t11 ? t13 : False
    refine xl_nil ?_
    refine x_if rfl (fun h2 => ?_) (fun h2 => ?_)
    · -- yes
      have hsl := shows_length hok k
      refine x_skip ?_
      refine x_seq ?_
      refine x_block ?_
      refine x_seq ?_
      refine x_region rfl ?_
      refine x_mv rfl rfl trivial rfl ?_  -- law.go:208 move t0
      refine x_mv rfl rfl trivial rfl ?_  -- law.go:208 move t4
      refine x_call rfl rfl trivial cal_disk_Disk_Read rfl (ct_disk_Disk_Read (D := D) (i := (k : Int)) hw) rfl (fun w v20 hv => ?_)  -- law.go:208 call f40 (*coppice/disk.Disk).Read(t18, t19)
      obtain ⟨h, -⟩ | ⟨-, h, -⟩ | ⟨-, -, s4, rfl, hw⟩ := hv
      · rw [hon] at h; cases h
      · exact absurd ⟨by omega, by omega⟩ h
      obtain ⟨a4, c4, rfl⟩ := row_form hw
      obtain ⟨-, bs, cur, rfl, -, -, -, hw⟩ := row_some hw (by decide)
      simp only [Int.toNat_natCast] at hw
      refine x_mv rfl rfl trivial rfl ?_  -- law.go:208 move t20
      refine x_ext rfl rfl trivial rfl rfl ?_  -- law.go:208 extract t17 .0
      refine x_ext rfl rfl trivial rfl rfl ?_  -- law.go:208 extract t17 .1
      refine x_as rfl rfl trivial rfl ?_  -- law.go:208 assign t21
      refine x_as rfl rfl trivial rfl ?_  -- law.go:208 assign t22
      refine xl_nil ?_
      refine x_region rfl ?_
      refine x_mv rfl rfl trivial rfl ?_  -- law.go:209 move t3
      refine x_mv rfl rfl trivial rfl ?_  -- law.go:209 move t5
      -- law.go:209 append(t23, t24)
      refine x_app (m := k * 512) (k := 512) (news := bys (D.shows k)) rfl rfl trivial U_sl_uint8 sz_uint8 by_uint8 zs_uint8 rfl rfl hw (by repeat (first | with_reducible exact Pick.here | apply Pick.there)) (by
        have h := (Rd.blk0 (b := bs) hw (by repeat (first | with_reducible exact Pick.here | apply Pick.there))).take 512
        rw [List.take_append_of_le_length (by rw [bys_length, hsl]; decide), List.take_of_length_le (by rw [bys_length, hsl]; decide)] at h; exact h) (by rw [bys_length, hsl]) (ones_bys _) (by simp only [maxLen]; omega) (by omega) rfl (fun w v25 hw => ?_)
      refine x_as rfl rfl trivial rfl ?_  -- law.go:209 assign t25
      refine xl_nil ?_
      refine x_region rfl ?_
      refine x_mv rfl rfl trivial rfl ?_  -- law.go:207 move t4
      refine x_addi rfl rfl trivial rfl rfl (by omega) ?_  -- law.go:207 add[3] t15 1
      refine x_as rfl rfl trivial rfl ?_  -- law.go:207 assign t16
      refine xl_nil ?_
      refine ⟨D.lasts.length - (k + 1), by omega, [(0, _), (3, v25), (4, .int .i64 (k + 1 : Nat))], (by repeat (first | exact Sub.nil _ | refine Sub.cons rfl ?_)), k + 1, v25, by omega, rfl, rfl, ?_⟩
      rw [wholeB_succ, bys_append, show (k + 1) * 512 = k * 512 + 512 by omega]
      exact hw.drop (.there .here)
    · -- no
      omega
  · -- no
    have hkk : k = D.lasts.length := by omega
    subst hkk
    refine xl_no rfl rfl rfl rfl rfl rfl ?_  -- passed over: move t4
    refine xl_no rfl rfl rfl rfl rfl rfl ?_  -- passed over: leq[3] t12 65536
    refine x_pickF rfl rfl trivial rfl rfl rfl ?_  -- law.go:207 pick t11 ? t13 : False
    refine xl_nil ?_
    refine x_cond_false rfl ?_
    refine x_exit rfl ?_  -- exit 0
    refine x_seq ?_
    refine x_region rfl ?_
    refine x_mv rfl rfl trivial rfl ?_  -- law.go:211 move t3
    refine x_as rfl rfl trivial rfl ?_  -- law.go:211 assign t26
    refine xl_nil ?_
    refine x_ret ?_
    exact end1 rfl rfl (hw.pick (.there .here))

theorem ct_ref06_fits {n : Int} (hw : Sat G L w) : Calls Try.prog 48 #[.int .i64 n] w (Ret fun v w' => v = .bool (decide (8 ≤ n ∧ n ≤ 65536)) ∧ Sat G L w') := by
  refine calls_of_x (args := [_]) func_ref06_fits rfl nt_ref06_fits rfl ?_
  refine x_seq ?_
  refine x_region rfl ?_
  refine x_as rfl rfl trivial rfl ?_  -- ref.go:24 assign False
  refine xl_nil ?_
  refine x_seq ?_
  refine x_region rfl ?_
  refine x_mv rfl rfl trivial rfl ?_  -- ref.go:24 move t0
  refine x_ge rfl rfl trivial rfl rfl ?_  -- ref.go:24 geq[3] t3 8
  refine x_mv rfl rfl trivial rfl ?_  -- ref.go:24 move t4
  refine xl_split (d := 5) rfl (fun h1 => ?_) (fun h1 => ?_)
  · -- yes
    refine x_mv rfl rfl ⟨_, rfl, rfl⟩ rfl ?_  -- ref.go:24 move t0
    refine x_le rfl rfl ⟨_, rfl, rfl⟩ rfl rfl ?_  -- ref.go:24 leq[3] t6 65536
    refine x_pickT rfl rfl trivial rfl rfl rfl ?_  -- ref.go:24 pick t5 ? t7 : False
    refine x_as rfl rfl trivial rfl ?_  -- ref.go:24 assign t8
    refine xl_nil ?_
    refine x_ret ?_
    exact end1 rfl rfl ⟨by simp [show 8 ≤ n by omega], hw⟩
  · -- no
    refine xl_no rfl rfl rfl rfl rfl rfl ?_  -- passed over: move t0
    refine xl_no rfl rfl rfl rfl rfl rfl ?_  -- passed over: leq[3] t6 65536
    refine x_pickF rfl rfl trivial rfl rfl rfl ?_  -- ref.go:24 pick t5 ? t7 : False
    refine x_as rfl rfl trivial rfl ?_  -- ref.go:24 assign t8
    refine xl_nil ?_
    refine x_ret ?_
    exact end1 rfl rfl ⟨by simp [show ¬ 8 ≤ n by omega], hw⟩

theorem ct_ref06_From {v : Value} {l : Bys} (hw : Sat G L w) (ka : Knows L (SlB v l)) (hll : l.length ≤ 140737488355328) :
    Calls Try.prog 17 #[v] w (Ret fun r w' => (¬ Fits8 l ∧ r = .tuple #[.pointer none, .int .i64 1] ∧ Sat G L w') ∨
      (Fits8 l ∧ ∃ p s, r = .tuple #[.pointer (some ⟨p, 0, none⟩), .int .i64 0] ∧ Sat G (blk p [s, .slice none 0 0, .bool true, .int .i64 (-1), .int .i64 0, .int .i64 0] 56 :: row 5 1 s l.length (bys l) :: L) w')) := by
  obtain ⟨a, cap, rfl⟩ := ((ka.of (by repeat (first | exact Suf.refl _ | apply Suf.cons))).at hw).form
  refine calls_of_x (args := [_]) func_ref06_From rfl nt_ref06_From rfl ?_
  refine x_seq ?_
  refine x_region rfl ?_
  refine x_as rfl rfl trivial rfl ?_  -- ref.go:35 assign {'nilptr': 1}
  refine x_as rfl rfl trivial rfl ?_  -- ref.go:35 assign 0
  refine xl_nil ?_
  refine x_seq ?_
  refine x_seq ?_
  refine x_region rfl ?_
  refine x_mv rfl rfl trivial rfl ?_  -- ref.go:36 move t0
  refine x_len rfl rfl trivial rfl U_sl_uint8 rfl ?_  -- ref.go:36 len(t4)
  refine x_remi rfl rfl trivial rfl rfl (by omega) (by omega) ?_  -- ref.go:36 rem[3] t5 512
  refine x_ne rfl rfl trivial rfl rfl rfl ?_  -- ref.go:36 neq[3] t6 0
  refine x_mv rfl rfl trivial rfl ?_  -- ref.go:36 move t7
  refine xl_split (d := 8) rfl (fun h1 => ?_) (fun h1 => ?_)
  · -- yes
    refine xl_no rfl rfl rfl rfl rfl rfl ?_  -- passed over: move t0
    refine xl_no rfl rfl rfl rfl rfl rfl ?_  -- passed over: len(t9)
    refine xl_no rfl rfl rfl rfl rfl rfl ?_  -- passed over: quo[3] t10 512
    refine xl_no rfl rfl rfl rfl rfl rfl ?_  -- passed over: call f48 coppice/coppiceref06.fits(t11)
    refine xl_no rfl rfl rfl rfl rfl rfl ?_  -- passed over: unOp "not" 4 12
    refine x_pickT rfl rfl trivial rfl rfl rfl ?_  -- ref.go:36 pick t8 ? True : t13
    refine xl_nil ?_
    refine x_cond_true rfl ?_
    refine x_seq ?_
    refine x_region rfl ?_
    refine x_as rfl rfl trivial rfl ?_  -- ref.go:37 assign {'nilptr': 1}
    refine x_as rfl rfl trivial rfl ?_  -- ref.go:37 assign 1
    refine xl_nil ?_
    refine x_ret ?_
    exact end2 rfl rfl rfl (.inl ⟨by unfold Fits8; omega, rfl, hw⟩)
  · -- no
    refine x_mv rfl rfl ⟨_, rfl, rfl⟩ rfl ?_  -- ref.go:36 move t0
    refine x_len rfl rfl ⟨_, rfl, rfl⟩ rfl U_sl_uint8 rfl ?_  -- ref.go:36 len(t9)
    refine x_quoi rfl rfl ⟨_, rfl, rfl⟩ rfl rfl (by omega) (by omega) ?_  -- ref.go:36 quo[3] t10 512
    refine x_call rfl rfl ⟨_, rfl, rfl⟩ cal_ref06_fits rfl (ct_ref06_fits hw) rfl (fun w v12 hv => ?_)  -- ref.go:36 call f48 coppice/coppiceref06.fits(t11)
    obtain ⟨rfl, hw⟩ := hv
    refine x_notp rfl rfl ⟨_, rfl, rfl⟩ rfl ?_  -- ref.go:36 unOp "not" 4 12
    refine x_pickF rfl rfl trivial rfl rfl rfl ?_  -- ref.go:36 pick t8 ? True : t13
    refine xl_nil ?_
    refine x_if rfl (fun h2 => ?_) (fun h2 => ?_)
    · -- yes
      refine x_seq ?_
      refine x_region rfl ?_
      refine x_as rfl rfl trivial rfl ?_  -- ref.go:37 assign {'nilptr': 1}
      refine x_as rfl rfl trivial rfl ?_  -- ref.go:37 assign 1
      refine xl_nil ?_
      refine x_ret ?_
      exact end2 rfl rfl rfl (.inl ⟨by unfold Fits8; omega, rfl, hw⟩)
    · -- no
      refine x_skip ?_
      refine x_seq ?_
      refine x_region rfl ?_
      refine x_mv rfl rfl trivial rfl ?_  -- ref.go:39 move t0
      refine x_call rfl rfl trivial cal_ref00_CopyBytes rfl (ct_ref00_CopyBytes (l := l) hw ka hll) rfl (fun w v16 hv => ?_)  -- ref.go:39 call f15 coppice/coppiceref00.CopyBytes(t15)
      have hw := hv
      obtain ⟨a16, c16, rfl⟩ := row_form hw
      -- ref.go:39 build 56 [[0, 16], [2, {"c": {"bool": true}}], [3, {"c": {"int": -1, "k": "i64"}}]]
      refine x_build (v := .agg #[.slice a16 l.length c16, .slice none 0 0, .bool true, .int .i64 (-1), .int .i64 0, .int .i64 0]) rfl rfl trivial rfl (fun w => by kernel_rfl) ?_
      refine x_box rfl rfl trivial rfl rfl hw rfl (fun w b18 hw => ?_)  -- ref.go:39 box[56] t17
      refine x_as rfl rfl trivial rfl ?_  -- ref.go:39 assign t18
      refine x_as rfl rfl trivial rfl ?_  -- ref.go:39 assign 0
      refine xl_nil ?_
      refine x_ret ?_
      exact end2 rfl rfl rfl (.inr ⟨by unfold Fits8; omega, _, _, rfl, hw⟩)


theorem Sat.behind : ∀ {M : List Assn}, Sat G (M ++ L) w → Sat G L w
  | [], h => h
  | _ :: M, h => Sat.behind (M := M) h.tail
theorem chunks_take (l : Bys) : ∀ k, ((List.range k).map (chunk l)).flatten = l.take (512 * k)
  | 0 => by simp
  | k + 1 => by
    rw [List.range_succ, List.map_append, List.flatten_append, chunks_take l k, show 512 * (k + 1) = 512 * k + 512 by omega, List.take_add]; simp [chunk]
theorem chunks_flatten {l : Bys} {n : Nat} (h : l.length = 512 * n) : (chunks l n).flatten = l := by
  rw [chunks, chunks_take, List.take_of_length_le (by omega)]
theorem new_whole (B : List Bys) : (Dk.new B).wholeB B.length = B.flatten := by
  unfold Dk.wholeB
  congr 1
  apply List.ext_getElem
  · simp
  · intro i h1 h2
    simp [Dk.shows, Dk.new, lastOf, blkAt, h2]

theorem ct_law06_DiskTaken {v : Value} {l : Bys} (hw : Sat G L w) (ka : Knows L (SlB v l)) (hll : l.length ≤ 140737488355328) :
    Calls Try.prog 8 #[v] w (Ret fun r w' => r = .bool true ∧ Sat G L w') := by
  refine calls_of_x (args := [_]) func_law06_DiskTaken rfl nt_law06_DiskTaken rfl ?_
  refine x_seq ?_
  refine x_region rfl ?_
  refine x_as rfl rfl trivial rfl ?_  -- law.go:417 assign False
  refine xl_nil ?_
  refine x_seq ?_
  refine x_region rfl ?_
  refine x_mv rfl rfl trivial rfl ?_  -- law.go:418 move t0
  refine x_call rfl rfl trivial cal_ref00_CopyBytes rfl (ct_ref00_CopyBytes (l := l) hw ka hll) rfl (fun w v10 hv => ?_)  -- law.go:418 call f15 coppice/coppiceref00.CopyBytes(t9)
  have hw := hv
  obtain ⟨a10, c10, rfl⟩ := row_form hw
  refine x_as rfl rfl trivial rfl ?_  -- law.go:418 assign t10
  refine xl_nil ?_
  refine x_seq ?_
  refine x_region rfl ?_
  refine x_mv rfl rfl trivial rfl ?_  -- law.go:419 move t3
  refine x_call rfl rfl trivial cal_disk_From rfl (ct_disk_From (l := l) hw (rowB rfl (by repeat (first | with_reducible exact Pick.here | apply Pick.there))) hll) rfl (fun w v13 hv => ?_)  -- law.go:419 call f16 coppice/disk.From(t12)
  obtain ⟨x, er, L1, rfl, hw, hx⟩ : ∃ x er L1, v13 = .tuple #[.pointer x, .int .i64 er] ∧ Sat G (L1 ++ (row 5 1 (.slice a10 l.length c10) l.length (bys l) :: L)) w ∧ ((¬ Fits8 l ∧ x = none ∧ er = 1 ∧ L1 = []) ∨ (Fits8 l ∧ ∃ q, x = some ⟨q, 0, none⟩ ∧ er = 0 ∧ L1 = [dsk q (Dk.new (chunks l (l.length / 512)))])) := by
    obtain ⟨hF, rfl, hw⟩ | ⟨hF, q, rfl, hw⟩ := hv
    · exact ⟨_, _, [], rfl, hw, .inl ⟨hF, rfl, rfl, rfl⟩⟩
    · exact ⟨_, _, [_], rfl, hw, .inr ⟨hF, q, rfl, rfl, rfl⟩⟩
  refine x_mv rfl rfl trivial rfl ?_  -- law.go:419 move t13
  refine x_ext rfl rfl trivial rfl rfl ?_  -- law.go:419 extract t11 .0
  refine x_ext rfl rfl trivial rfl rfl ?_  -- law.go:419 extract t11 .1
  refine x_as rfl rfl trivial rfl ?_  -- law.go:419 assign t14
  refine x_as rfl rfl trivial rfl ?_  -- law.go:419 assign t15
  refine xl_nil ?_
  refine x_seq ?_
  refine x_region rfl ?_
  refine x_mv rfl rfl trivial rfl ?_  -- law.go:420 move t0
  refine x_call rfl rfl trivial cal_ref06_From rfl (ct_ref06_From (l := l) hw ((ka.cons _).app L1) hll) rfl (fun w v18 hv => ?_)  -- law.go:420 call f17 coppice/coppiceref06.From(t17)
  obtain ⟨y, er', L2, rfl, hw, hy⟩ : ∃ y er' L2, v18 = .tuple #[.pointer y, .int .i64 er'] ∧ Sat G (L2 ++ (L1 ++ (row 5 1 (.slice a10 l.length c10) l.length (bys l) :: L))) w ∧ ((¬ Fits8 l ∧ y = none ∧ er' = 1) ∨ (Fits8 l ∧ (∃ q, y = some ⟨q, 0, none⟩) ∧ er' = 0)) := by
    obtain ⟨hF, rfl, hw⟩ | ⟨hF, q, s, rfl, hw⟩ := hv
    · exact ⟨_, _, [], rfl, hw, .inl ⟨hF, rfl, rfl⟩⟩
    · exact ⟨_, _, [_, _], rfl, hw, .inr ⟨hF, ⟨q, rfl⟩, rfl⟩⟩
  have her : er = er' := by
    rcases hx with ⟨h, -, h1, -⟩ | ⟨h, -, -, h1, -⟩ <;> rcases hy with ⟨h', -, h2⟩ | ⟨h', -, h2⟩
    · rw [h1, h2]
    · exact absurd h' h
    · exact absurd h h'
    · rw [h1, h2]
  have hnil : x.isNone = y.isNone := by
    rcases hx with ⟨h, rfl, -, -⟩ | ⟨h, -, rfl, -, -⟩ <;> rcases hy with ⟨h', rfl, -⟩ | ⟨h', ⟨_, rfl⟩, -⟩
    · rfl
    · exact absurd h' h
    · exact absurd h h'
    · rfl
  refine x_mv rfl rfl trivial rfl ?_  -- law.go:420 move t18
  refine x_ext rfl rfl trivial rfl rfl ?_  -- law.go:420 extract t16 .0
  refine x_ext rfl rfl trivial rfl rfl ?_  -- law.go:420 extract t16 .1
  refine x_as rfl rfl trivial rfl ?_  -- law.go:420 assign t19
  refine x_as rfl rfl trivial rfl ?_  -- law.go:420 assign t20
  refine xl_nil ?_
  refine x_seq ?_
  refine x_seq ?_
  refine x_region rfl ?_
  refine x_mv rfl rfl trivial rfl ?_  -- law.go:421 move t5
  refine x_mv rfl rfl trivial rfl ?_  -- law.go:421 move t7
  refine x_ne rfl rfl trivial rfl rfl rfl ?_  -- law.go:421 neq[26] t21 t22
  refine x_mv rfl rfl trivial rfl ?_  -- law.go:421 move t23
  refine xl_split (d := 24) rfl (fun h1 => ?_) (fun h1 => ?_)
  · -- yes
    exact absurd her h1
  · -- no
    refine x_mv rfl rfl ⟨_, rfl, rfl⟩ rfl ?_  -- law.go:421 move t4
    refine x_eqnil rfl rfl ⟨_, rfl, rfl⟩ rfl U_p_disk_Disk rfl ?_  -- law.go:421 eql[25] t25 {'nilptr': 1}
    refine x_mv rfl rfl ⟨_, rfl, rfl⟩ rfl ?_  -- law.go:421 move t6
    refine x_eqnil rfl rfl ⟨_, rfl, rfl⟩ rfl U_p_coppiceref06_Disk rfl ?_  -- law.go:421 eql[29] t27 {'nilptr': 1}
    refine x_neb rfl rfl ⟨_, rfl, rfl⟩ rfl U_bool rfl rfl ?_  -- law.go:421 neq[4] t26 t28
    refine x_pickF rfl rfl trivial rfl rfl rfl ?_  -- law.go:421 pick t24 ? True : t29
    refine x_mv rfl rfl trivial rfl ?_  -- law.go:421 move t30
    refine xl_split (d := 31) rfl (fun h2 => ?_) (fun h2 => ?_)
    · -- yes
      exact absurd hnil h2
    · -- no
      refine x_call rfl rfl ⟨_, rfl, rfl⟩ cal_law06_works rfl (ct_law06_works hw) rfl (fun w v32 hv => ?_)  -- law.go:421 call f18 coppice/coppicelaw06.works()
      obtain ⟨rfl, hw⟩ := hv
      -- law.go:421 unOp "not" 4 32
      refine x_not rfl rfl ⟨_, rfl, rfl⟩ rfl ?_
      refine x_pickF rfl rfl trivial rfl rfl rfl ?_  -- law.go:421 pick t31 ? True : t33
      refine xl_nil ?_
      refine x_cond_false rfl ?_
      refine x_skip ?_
      refine x_seq ?_
      refine x_seq ?_
      refine x_region rfl ?_
      refine x_mv rfl rfl trivial rfl ?_  -- law.go:424 move t6
      refine x_eqnil rfl rfl trivial rfl U_p_coppiceref06_Disk rfl ?_  -- law.go:424 eql[29] t35 {'nilptr': 1}
      refine xl_nil ?_
      refine x_cond rfl (fun h4 => ?_) (fun h4 => ?_)
      · -- yes
        refine x_seq ?_
        refine x_region rfl ?_
        refine x_as rfl rfl trivial rfl ?_  -- law.go:425 assign True
        refine xl_nil ?_
        refine x_ret ?_
        exact end1 rfl rfl ⟨rfl, Sat.tail (Sat.behind (M := L1) (Sat.behind (M := L2) hw))⟩
      · -- no
        have hF : Fits8 l := by
          rcases hy with ⟨_, rfl, _⟩ | ⟨h, _⟩
          · cases h4
          · exact h
        obtain ⟨h, -⟩ | ⟨-, q, rfl, -, rfl⟩ := hx
        · exact absurd hF h
        replace hw := Sat.behind (M := L2) hw
        simp only [List.cons_append, List.nil_append] at hw
        have hnl : l.length = 512 * (l.length / 512) := by have := hF.1; omega
        have hDi : (Dk.new (chunks l (l.length / 512))).img = l := chunks_flatten hnl
        have hDw : (Dk.new (chunks l (l.length / 512))).wholeB (Dk.new (chunks l (l.length / 512))).lasts.length = l := (new_whole _).trans hDi
        have hDl : (Dk.new (chunks l (l.length / 512))).lasts.length = l.length / 512 := chunks_length ..
        have hDon : (Dk.new (chunks l (l.length / 512))).on = true := rfl
        generalize Dk.new (chunks l (l.length / 512)) = D at hw hDi hDw hDl hDon
        refine x_skip ?_
        refine x_seq ?_
        refine x_seq ?_
        refine x_region rfl ?_
        refine x_as rfl rfl trivial rfl ?_  -- law.go:427 assign 0
        refine xl_nil ?_
        refine x_block ?_
        refine x_loop (fun m e w => ∃ (k : Nat) (cs : List Value), k ≤ l.length ∧ m = l.length - k ∧ e = [(0, v), (3, .slice a10 l.length c10), (4, .pointer (some ⟨q, 0, none⟩)), (8, .int .i64 k)] ∧ cs.length = l.length ∧ (∀ c ∈ cs, ∃ i, c = .int .u8 i) ∧ Sat G (row 5 1 (.slice a10 l.length c10) l.length cs :: dsk q D :: L) w)
          (m := l.length) (e₀ := [(0, v), (3, .slice a10 l.length c10), (4, .pointer (some ⟨q, 0, none⟩)), (8, .int .i64 (0 : Nat))]) (by repeat (first | exact Sub.nil _ | refine Sub.cons rfl ?_))
          ⟨0, bys l, Nat.zero_le _, rfl, rfl, bys_length l, fun c hc => (by obtain ⟨i, -, rfl⟩ := List.mem_map.1 hc; exact ⟨_, rfl⟩), hw.pick (.there .here)⟩ ?_
        rintro m e w ⟨k, cs, hk, rfl, rfl, hcs, hci, hw⟩
        refine x_seq ?_
        refine x_seq ?_
        refine x_region rfl ?_
        refine x_mv rfl rfl trivial rfl ?_  -- law.go:427 move t8
        refine x_mv rfl rfl trivial rfl ?_  -- law.go:427 move t3
        refine x_len rfl rfl trivial rfl U_sl_uint8 rfl ?_  -- law.go:427 len(t38)
        refine x_lt rfl rfl trivial rfl rfl ?_  -- law.go:427 lss[3] t37 t39
        refine xl_nil ?_
        refine x_if rfl (fun h5 => ?_) (fun h5 => ?_)
        · -- yes
          have hk' : k < l.length := by omega
          obtain ⟨hcl, b, cur, rfl, hcc, hcm, hcl2, hw⟩ := row_some hw (by omega)
          have hkc : k < cs.length := by omega
          obtain ⟨i, hi⟩ := hci _ (List.getElem_mem hkc)
          have hget : (cs ++ cur)[0 + (k : Int).toNat]? = some (.int .u8 i) := by
            rw [Int.toNat_natCast, Nat.zero_add, List.getElem?_append_left hkc, List.getElem?_eq_getElem hkc, hi]
          refine x_skip ?_
          refine x_seq ?_
          refine x_block ?_
          refine x_region rfl ?_
          refine x_mv rfl rfl trivial rfl ?_  -- law.go:428 move t3
          refine x_mv rfl rfl trivial rfl ?_  -- law.go:428 move t8
          refine x_mv rfl rfl trivial rfl ?_  -- law.go:428 move t3
          refine x_mv rfl rfl trivial rfl ?_  -- law.go:428 move t8
          refine x_idx1 rfl rfl trivial U_sl_uint8 sz_uint8 rfl rfl ⟨by omega, by omega⟩ ?_  -- law.go:428 indexAddr[23] t45 [t46] 
          refine x_ld rfl rfl trivial rfl (Loads.blk1 one_uint8 hw (by repeat (first | with_reducible exact Pick.here | apply Pick.there)) hget) ?_  -- law.go:428 load[5] t47
          refine x_xor rfl rfl trivial rfl rfl ?_  -- law.go:428 xor[5] t48 90
          refine x_idx1 rfl rfl trivial U_sl_uint8 sz_uint8 rfl rfl ⟨by omega, by omega⟩ ?_  -- law.go:428 indexAddr[23] t43 [t44] 
          -- law.go:428 store[5] t50 := t49
          refine x_st1 (l' := _) rfl trivial rfl rfl one_uint8 rfl hw (by repeat (first | with_reducible exact Pick.here | apply Pick.there)) (by simp; omega) rfl rfl (fun w hw => ?_)
          refine xl_nil ?_
          refine x_region rfl ?_
          refine x_mv rfl rfl trivial rfl ?_  -- law.go:427 move t8
          refine x_addi rfl rfl trivial rfl rfl (by omega) ?_  -- law.go:427 add[3] t41 1
          refine x_as rfl rfl trivial rfl ?_  -- law.go:427 assign t42
          refine xl_nil ?_
          rw [Int.toNat_natCast, Nat.zero_add, List.set_append_left _ _ hkc] at hw
          refine ⟨l.length - (k + 1), by omega, [(0, _), (3, _), (4, _), (8, .int .i64 (k + 1 : Nat))], (by repeat (first | exact Sub.nil _ | refine Sub.cons rfl ?_)), k + 1, _, by omega, rfl, rfl, ?_, ?_, row_mk hw (by simpa using hcl) hcc hcm (by simpa using hcl2)⟩
          · rw [List.length_set]; exact hcs
          · intro c hc
            rcases List.mem_or_eq_of_mem_set hc with h | h
            · exact hci c h
            · exact ⟨_, h⟩
        · -- no
          refine x_exit rfl ?_  -- exit 0
          refine x_seq ?_
          refine x_region rfl ?_
          refine x_mv rfl rfl trivial rfl ?_  -- law.go:430 move t4
          refine x_call rfl rfl trivial cal_disk_Disk_Image rfl (ct_disk_Disk_Image (D := D) (p := q) (hw.pick (by repeat (first | with_reducible exact Pick.here | apply Pick.there)))) rfl (fun w v52 hv => ?_)  -- law.go:430 call f20 (*coppice/disk.Disk).Image(t51)
          have hw := hv
          rw [hDi] at hw
          refine x_mv rfl rfl trivial rfl ?_  -- law.go:430 move t0
          refine x_call rfl rfl trivial cal_ref00_EqBytes rfl (ct_ref00_EqBytes (l := l) (l' := l) hw (rowB (n := 512 * D.lasts.length) (by omega) (by repeat (first | with_reducible exact Pick.here | apply Pick.there))) (ka.of (by repeat (first | exact Suf.refl _ | apply Suf.cons))) hll hll) rfl (fun w v54 hv => ?_)  -- law.go:430 call f19 coppice/coppiceref00.EqBytes(t52, t53)
          obtain ⟨rfl, hw⟩ := hv
          refine x_mv rfl rfl trivial rfl ?_  -- law.go:430 move t54
          refine xl_split (d := 55) rfl (fun h6 => ?_) (fun h6 => ?_)
          · -- yes
            refine x_mv rfl rfl ⟨_, rfl, rfl⟩ rfl ?_  -- law.go:430 move t4
            refine x_call rfl rfl ⟨_, rfl, rfl⟩ cal_law06_whole rfl (ct_law06_whole (D := D) (p := q) (hw.pick (by repeat (first | with_reducible exact Pick.here | apply Pick.there))) hDon) rfl (fun w v57 hv => ?_)  -- law.go:430 call f21 coppice/coppicelaw06.whole(t56)
            have hw := hv
            rw [hDw] at hw
            refine x_mv rfl rfl ⟨_, rfl, rfl⟩ rfl ?_  -- law.go:430 move t0
            refine x_call rfl rfl ⟨_, rfl, rfl⟩ cal_ref00_EqBytes rfl (ct_ref00_EqBytes (l := l) (l' := l) hw (rowB (n := D.lasts.length * 512) (by omega) (by repeat (first | with_reducible exact Pick.here | apply Pick.there))) (ka.of (by repeat (first | exact Suf.refl _ | apply Suf.cons))) hll hll) rfl (fun w v59 hv => ?_)  -- law.go:430 call f19 coppice/coppiceref00.EqBytes(t57, t58)
            obtain ⟨rfl, hw⟩ := hv
            refine x_pickT rfl rfl trivial rfl rfl rfl ?_  -- law.go:430 pick t55 ? t59 : False
            refine x_as rfl rfl trivial rfl ?_  -- law.go:430 assign t60
            refine xl_nil ?_
            refine x_ret ?_
            exact end1 rfl rfl ⟨by simp, (by repeat (first | exact hw | replace hw := hw.tail))⟩
          · -- no
            exact absurd rfl h6
end
end Go.Proofs.Ytekilljcoplacaa.X
