/- Part 2 of what the proof of this claim stands on: rules for walking the code, and what its functions answer; no conditions. -/
import Derived.Test.YtnlakpappccekaaGreatDoorY1
namespace Go.Proofs.YtnlakpappccekaaGreatDoor.X
set_option linter.unusedVariables false
set_option linter.unusedSimpArgs false
set_option maxRecDepth 20000
set_option maxHeartbeats 8000000
def wrd (q : Nat) (b : Bys) (er : Int) : Assn := ex fun x : Value × Value × Bys => lift (Knows [row 5 1 x.2.1 x.2.2.length (bys x.2.2)] (SlB x.1 b) ∧ Plain x.1) (both [blk q [x.1, .int .i64 er] 177, row 5 1 x.2.1 x.2.2.length (bys x.2.2)])
section
variable {G : Gh} {L R : List Assn} {w : World} {q : Nat} {b : Bys} {er : Int}
theorem wrd_open (hw : Sat G (wrd q b er :: R) w) : ∃ v v0 b0, (∀ M, Knows (row 5 1 v0 b0.length (bys b0) :: M) (SlB v b)) ∧ Plain v ∧ Sat G (blk q [v, .int .i64 er] 177 :: row 5 1 v0 b0.length (bys b0) :: R) w := by
 obtain ⟨x, h⟩ := hw.ex_out
 obtain ⟨⟨h1, h2⟩, h⟩ := h.lift_out
 exact ⟨x.1, x.2.1, x.2.2, fun M => h1.head M, h2, h.both_out⟩
theorem wrd_shut {v v0 : Value} {b0 : Bys} (h1 : ∀ M, Knows (row 5 1 v0 b0.length (bys b0) :: M) (SlB v b)) (h2 : Plain v) (hw : Sat G (blk q [v, .int .i64 er] 177 :: row 5 1 v0 b0.length (bys b0) :: R) w) : Sat G (wrd q b er :: R) w :=
 Sat.ex_in (v, v0, b0) (Sat.lift_in ⟨h1 [], h2⟩ (Sat.both_in (M := [blk q [v, .int .i64 er] 177, row 5 1 v0 b0.length (bys b0)]) hw))
theorem ct_wire_must {x : Prop} [Decidable x] {er : Int} (hx : x) (hw : Sat G L w) : Calls Tryz.prog 160 #[.bool (decide x), .int .i64 er] w (Ret fun r w' => r = .tuple #[] ∧ Sat G L w') := by
 refine calls_of_x (args := [_, _]) Tryz.func160 rfl Tryz.ntmps160 rfl rfl ?_
 refine x_seq ?_
 refine x_region rfl ?_
 refine x_mv rfl rfl trivial rfl ?_
 refine x_notp rfl rfl trivial rfl ?_
 refine xl_nil ?_
 refine x_if rfl (fun h1 => ?_) (fun h1 => ?_)
 ·
  exact absurd hx h1
 refine x_skip ?_
 exact end0 rfl rfl ⟨rfl, hw⟩
theorem ct_wire_NewReader {v : Value} (hw : Sat G L w) (kl : Knows L (SlB v b)) (hl : b.length ≤ 1000000000000) : Calls Tryz.prog 41 #[v] w (Ret fun r w' => ∃ q, r = .pointer (some ⟨q, 0, none⟩) ∧ Sat G (wrd q b 0 :: L) w') := by
 have hk0 := kl.at hw
 have hw := row_nil hw 5 1
 refine calls_of_x (args := [_]) Tryz.func41 rfl Tryz.ntmps41 rfl rfl ?_
 refine x_seq ?_
 refine x_region rfl ?_
 refine x_as rfl rfl trivial rfl ?_
 refine xl_nil ?_
 refine x_seq ?_
 refine x_region rfl ?_
 refine x_mv rfl rfl trivial rfl ?_
 refine x_appB (m := 0) (xs := []) (b := b) rfl rfl trivial U_sl_uint8 sz_uint8 by_uint8 zs_uint8 rfl rfl hw pK hk0 (by omega) rfl (fun w v4 hw => ?_)
 rw [Nat.zero_add, List.nil_append] at hw
 obtain ⟨a4, c4, rfl⟩ := ((SlB.row.head L).at hw).form
 refine x_build (v := .agg #[.slice a4 b.length c4, .int .i64 0]) rfl rfl trivial rfl (fun w => by kernel_rfl) ?_
 refine x_box rfl rfl trivial rfl rfl hw rfl (fun w b6 hw => ?_)
 refine x_as rfl rfl trivial rfl ?_
 refine xl_nil ?_
 refine x_ret ?_
 exact end1 rfl rfl rfl ⟨b6, rfl, wrd_shut (b0 := b) (fun M => SlB.row.head M) (Plain.row (hw.bring (As := [row 5 1 _ _ _]) bR)) (hw.bring (As := [blk b6 _ _, row 5 1 _ _ _]) bR)⟩
theorem ct_wire_Reader_take {n : Nat} (hw : Sat G (wrd q b er :: L) w) (hn : n ≤ b.length) (hl : b.length ≤ 1000000000000) : Calls Tryz.prog 92 #[.pointer (some ⟨q, 0, none⟩), .int .i64 n] w (Ret fun r w' => Sat G (wrd q (b.drop n) er :: row 5 1 r n (bys (b.take n)) :: L) w') := by
 obtain ⟨v, v0, b0, kv, hp, hw⟩ := wrd_open hw
 obtain ⟨a, cap, rfl⟩ := (((kv L).of sF).at hw).form
 refine calls_of_x (args := [_, _]) Tryz.func92 rfl Tryz.ntmps92 rfl rfl ?_
 refine x_seq ?_
 refine x_region rfl ?_
 refine x_as rfl rfl trivial rfl ?_
 refine xl_nil ?_
 refine x_seq ?_
 refine x_region rfl ?_
 refine x_mv rfl rfl trivial rfl ?_
 refine x_ge rfl rfl trivial rfl rfl ?_
 refine x_call rfl rfl trivial cal_wire_must rfl (ct_wire_must (by omega) hw) rfl (fun w v8 hv => ?_)
 obtain ⟨rfl, hw⟩ := hv
 refine xl_nil ?_
 refine x_seq ?_
 refine x_region rfl ?_
 refine x_mv rfl rfl trivial rfl ?_
 refine x_mv rfl rfl trivial rfl ?_
 refine x_nc rfl rfl trivial rfl ?_
 refine x_fld rfl rfl trivial fo_wire_Reader_0 rfl ?_
 refine x_ld rfl rfl trivial rfl (Loads.blk1 (v := .slice a b.length cap) one_sl_uint8 hw pK rfl) ?_
 refine x_len rfl rfl trivial (by kernel_rfl) U_sl_uint8 rfl ?_
 refine x_le rfl rfl trivial rfl rfl ?_
 refine x_call rfl rfl trivial cal_wire_must rfl (ct_wire_must (by omega) hw) rfl (fun w v16 hv => ?_)
 obtain ⟨rfl, hw⟩ := hv
 refine xl_nil ?_
 refine x_seq ?_
 refine x_region rfl ?_
 refine x_mv rfl rfl trivial rfl ?_
 refine x_nc rfl rfl trivial rfl ?_
 refine x_fld rfl rfl trivial fo_wire_Reader_0 rfl ?_
 refine x_ld rfl rfl trivial rfl (Loads.blk1 (v := .slice a b.length cap) one_sl_uint8 hw pK rfl) ?_
 refine x_mv rfl rfl trivial rfl ?_
 refine x_cutHB (b := b) rfl rfl trivial U_sl_uint8 sz_uint8 rfl rfl (((kv L).of sF).at hw) ⟨by omega, by omega⟩ (hp _ _ _ rfl) (fun v22 e22 h22 => ?_)
 rw [Int.toNat_natCast] at h22
 have hw := row_nil hw 5 1
 refine x_appB (m := 0) (xs := []) (b := b.take n) rfl rfl trivial U_sl_uint8 sz_uint8 by_uint8 zs_uint8 rfl rfl hw pK (h22 _ (((kv L).of sF).at hw)) (by rw [List.length_take]; omega) rfl (fun w v23 hw => ?_)
 rw [Nat.zero_add, List.nil_append, List.length_take, Nat.min_eq_left hn] at hw
 refine x_as rfl rfl trivial rfl ?_
 refine xl_nil ?_
 refine x_seq ?_
 refine x_region rfl ?_
 refine x_mv rfl rfl trivial rfl ?_
 refine x_mv rfl rfl trivial rfl ?_
 refine x_nc rfl rfl trivial rfl ?_
 refine x_fld rfl rfl trivial fo_wire_Reader_0 rfl ?_
 refine x_ld rfl rfl trivial rfl (Loads.blk1 (v := .slice a b.length cap) one_sl_uint8 hw pK rfl) ?_
 refine x_mv rfl rfl trivial rfl ?_
 refine x_cutLB (b := b) rfl rfl trivial U_sl_uint8 sz_uint8 rfl rfl ((kv _).at (hw.bring (As := [row 5 1 v0 _ _]) bR)) ⟨by omega, by omega⟩ (fun v30 h30 p30 => ?_)
 rw [Int.toNat_natCast] at h30
 have hc30 : v30.oneCell' = true := by
  rcases h30 w ((kv _).at (hw.bring (As := [row 5 1 v0 _ _]) bR)) with ⟨⟨x, rfl⟩, -⟩ | ⟨x, y, z, rfl, -⟩ <;> rfl
 refine x_nc rfl rfl trivial rfl ?_
 refine x_fld rfl rfl trivial fo_wire_Reader_0 rfl ?_
 refine x_st1 (l' := [v30, .int .i64 er]) rfl trivial rfl rfl one_sl_uint8 hc30 hw pK rfl rfl rfl (fun w hw => ?_)
 refine xl_nil ?_
 refine x_seq ?_
 refine x_region rfl ?_
 refine x_mv rfl rfl trivial rfl ?_
 refine x_as rfl rfl trivial rfl ?_
 refine xl_nil ?_
 refine x_ret ?_
 exact end1 rfl rfl rfl (wrd_shut (fun M => (kv M).mono h30) (p30 hp) (hw.bring (As := [blk q _ _, row 5 1 v0 _ _, row 5 1 v23 _ _]) bR))
theorem wid_uint8 : ∀ j, j ≤ 1 → (0 < 255 / 256 ^ j ↔ j < 1) := by decide
theorem ct_wire_width_uint8 (hw : Sat G L w) : Calls Tryz.prog 97 #[] w (Ret fun r w' => r = .int .i64 1 ∧ Sat G L w') := by
 refine calls_of_x (args := []) Tryz.func97 rfl Tryz.ntmps97 rfl rfl ?_
 refine x_seq ?_
 refine x_region rfl ?_
 refine x_as rfl rfl trivial rfl ?_
 refine xl_nil ?_
 refine x_seq ?_
 refine x_region rfl ?_
 refine x_as rfl rfl trivial rfl ?_
 refine xl_nil ?_
 refine x_seq ?_
 refine x_seq ?_
 refine x_region rfl ?_
 refine x_convE (v := 0) rfl rfl trivial (by kernel_rfl) U_int U_uint8 rfl (by decide) ?_
 refine x_com (v := 255) rfl rfl trivial rfl (by decide) ?_
 refine x_convE (v := 255) rfl rfl trivial (by kernel_rfl) U_uint8 U_uint64 rfl (by decide) ?_
 refine x_as rfl rfl trivial rfl ?_
 refine xl_nil ?_
 refine x_block ?_
 refine x_loop (fun m e w => ∃ j : Nat, j ≤ 1 ∧ m = 1 - j ∧ e = [(1, .int .i64 j), (2, .int .u64 ((255 / 256 ^ j : Nat) : Int))] ∧ Sat G L w)
  (m := 1) (e₀ := [(1, .int .i64 (0 : Nat)), (2, .int .u64 ((255 / 256 ^ 0 : Nat) : Int))]) sB
  ⟨0, Nat.zero_le _, rfl, rfl, hw⟩ ?_
 rintro m e w ⟨j, hj, rfl, rfl, hw⟩
 refine x_seq ?_
 refine x_seq ?_
 refine x_region rfl ?_
 refine x_mv rfl rfl trivial rfl ?_
 refine x_gt rfl rfl trivial rfl rfl ?_
 refine xl_nil ?_
 refine x_if rfl (fun h1 => ?_) (fun h1 => ?_)
 ·
  have hj' := (wid_uint8 j hj).1 (by omega)
  refine x_skip ?_
  refine x_seq ?_
  refine x_block ?_
  refine x_region rfl ?_
  refine x_mv rfl rfl trivial rfl ?_
  refine x_addi rfl rfl trivial rfl rfl (by omega) ?_
  refine x_as rfl rfl trivial rfl ?_
  refine xl_nil ?_
  refine x_region rfl ?_
  refine x_mv rfl rfl trivial rfl ?_
  refine x_shr (v := ((255 / 256 ^ (j + 1) : Nat) : Int)) rfl rfl trivial rfl rfl (by decide) (by rw [shr8, Nat.div_div_eq_div_mul, ← Nat.pow_succ]) ?_
  refine x_as rfl rfl trivial rfl ?_
  refine xl_nil ?_
  exact ⟨1 - (j + 1), by omega, [(1, .int .i64 (j + 1 : Nat)), (2, _)], sB, j + 1, by omega, rfl, rfl, hw⟩
 have hj' : j = 1 := by
  have h2 := (wid_uint8 j hj).2
  refine Decidable.byContradiction fun hn => ?_
  have := h2 (by omega)
  omega
 subst hj'
 refine x_exit rfl ?_
 refine x_seq ?_
 refine x_region rfl ?_
 refine x_mv rfl rfl trivial rfl ?_
 refine x_as rfl rfl trivial rfl ?_
 refine xl_nil ?_
 refine x_ret ?_
 exact end1 rfl rfl rfl ⟨rfl, hw⟩
theorem ct_wire_Get_uint8_1 {p : Nat} (hw : Sat G (wrd q b 0 :: blk p [.pointer (some ⟨q, 0, none⟩)] 107 :: L) w) (hn : 1 ≤ b.length) (hl : b.length ≤ 1000000000000) :
  Calls Tryz.prog 96 #[.pointer (some ⟨p, 0, none⟩)] w (Ret fun r w' => r = .int .u8 ((leN (b.take 1) : Nat) : Int) ∧ Sat G (wrd q (b.drop 1) 0 :: blk p [.pointer (some ⟨q, 0, none⟩)] 107 :: L) w') := by
 have hol : (b.take 1).length = 1 := by rw [List.length_take]; omega
 refine calls_of_x (args := [_]) Tryz.func96 rfl Tryz.ntmps96 rfl rfl ?_
 refine x_seq ?_
 refine x_region rfl ?_
 refine x_as rfl rfl trivial rfl ?_
 refine xl_nil ?_
 refine x_seq ?_
 refine x_draw [0, 1, 2, 3] mixed (by kernel_rfl) ?_
 replace hw := hw.drawn (w.drawn + 1)
 refine x_ld rfl rfl trivial rfl (Loads.blk1 one_p_wire_Reader hw pK rfl) ?_
 refine x_callP rfl rfl trivial cal_wire_width_uint8 rfl (ct_wire_width_uint8 hw) (fun w v6 hv q' hq => ?_) (fun w v6 hv => ?_)
 ·
  obtain ⟨rfl, hw⟩ := hv
  have hq := pend_mem (l := [0]) (by kernel_rfl) hq
  simp only [List.mem_cons, List.not_mem_nil, or_false] at hq
  subst hq
  exact chk_ld rfl rfl rfl (Loads.blk1 one_p_wire_Reader hw pK rfl)
 obtain ⟨rfl, hw⟩ := hv
 refine x_call rfl rfl trivial cal_wire_Reader_take rfl (ct_wire_Reader_take (n := 1) hw hn hl) (by kernel_rfl) (fun w v7 hv => ?_)
 have hw := hv
 obtain ⟨o, ho⟩ : ∃ o, o = b.take 1 := ⟨_, rfl⟩
 rw [← ho] at hw hol ⊢
 have hk7 : ∀ M, Knows (row 5 1 v7 1 (bys o) :: M) (SlB v7 o) := fun M => by have h := (SlB.row (T := 5) (v := v7) (l := o)).head M; rw [hol] at h; exact h
 obtain ⟨a7, c7, e7⟩ := (((hk7 _).of (L' := row 5 1 v7 1 (bys o) :: wrd q (b.drop 1) 0 :: blk p [.pointer (some ⟨q, 0, none⟩)] 107 :: L) sF).at (hw.bring (As := [row 5 1 v7 _ _]) bR)).form
 rw [hol] at e7
 subst e7
 refine x_as rfl rfl trivial rfl ?_
 refine xl_nil ?_
 refine x_seq ?_
 refine x_region rfl ?_
 refine x_as rfl rfl trivial rfl ?_
 refine xl_nil ?_
 refine x_seq ?_
 refine x_seq ?_
 refine x_region rfl ?_
 refine x_mv rfl rfl trivial rfl ?_
 refine x_len rfl rfl trivial (by kernel_rfl) U_sl_uint8 rfl ?_
 refine x_mv rfl rfl trivial rfl ?_
 refine xl_nil ?_
 refine x_block ?_
 refine x_loop (fun m e w => ∃ k : Nat, k ≤ 1 ∧ m = 1 - k ∧ e = [(2, .slice a7 1 c7), (3, .int .u64 ((leN (o.take k) : Nat) : Int)), (8, .slice a7 1 c7), (9, .int .i64 (1 : Nat)), (10, .int .i64 k)] ∧ Sat G (row 5 1 (.slice a7 1 c7) 1 (bys o) :: wrd q (b.drop 1) 0 :: blk p [.pointer (some ⟨q, 0, none⟩)] 107 :: L) w)
  (m := 1) (e₀ := [(2, .slice a7 1 c7), (3, .int .u64 ((leN (o.take 0) : Nat) : Int)), (8, .slice a7 1 c7), (9, .int .i64 (1 : Nat)), (10, .int .i64 (0 : Nat))]) sB
  ⟨0, Nat.zero_le _, rfl, rfl, hw.bring (As := [row 5 1 _ _ _]) bR⟩ ?_
 rintro m e w ⟨k, hk, rfl, rfl, hw⟩
 refine x_seq ?_
 refine x_region rfl ?_
 refine x_lt rfl rfl trivial rfl rfl ?_
 refine xl_nil ?_
 refine x_seq ?_
 refine x_if rfl (fun h1 => ?_) (fun h1 => ?_)
 ·
  have hk' : k < 1 := by omega
  have hk8 : k < 8 := by omega
  have hsl := (hk7 _).at hw
  have hsl' := hsl
  rw [show (1 : Nat) = o.length from hol.symm] at hsl'
  obtain ⟨bb, oo, rfl⟩ := hsl'.nn (by omega)
  obtain ⟨x, hx⟩ : ∃ x, x = o.getD k 0 := ⟨_, rfl⟩
  refine x_skip ?_
  refine x_seq ?_
  refine x_block ?_
  refine x_seq ?_
  refine x_region rfl ?_
  refine x_mv rfl rfl trivial rfl ?_
  refine x_as rfl rfl trivial rfl ?_
  refine xl_nil ?_
  refine x_region rfl ?_
  refine x_mv rfl rfl trivial rfl ?_
  refine x_mv rfl rfl trivial rfl ?_
  refine x_mv rfl rfl trivial rfl ?_
  refine x_idx1 rfl rfl trivial U_sl_uint8 sz_uint8 rfl rfl ⟨by omega, by omega⟩ ?_
  refine x_ld rfl rfl trivial rfl (Loads.one (v := bv x) one_uint8 (by have h := hsl'.at (i := (k : Int)) ⟨by omega, by omega⟩; rw [hx]; exact h)) ?_
  refine x_convE (v := (x.toNat : Int)) rfl rfl trivial (by kernel_rfl) U_uint8 U_uint64 rfl (byte64 x) ?_
  refine x_mv rfl rfl trivial rfl ?_
  refine x_muli rfl rfl trivial rfl rfl (by omega) ?_
  refine x_shl (v := IntKind.u64.wrap ((x.toNat : Int) * 2 ^ min (8 * (k : Int)).toNat IntKind.u64.bits)) rfl rfl trivial rfl rfl (by omega) rfl ?_
  refine x_orE (v := ((leN (o.take (k + 1)) : Nat) : Int)) rfl rfl trivial rfl rfl (by
   have hlt := leN_lt (o.take k)
   have hlk : (o.take k).length = k := by rw [List.length_take]; omega
   rw [hlk] at hlt
   rw [or64 hk8 hlt x.toNat_lt, take_succ_getD o k 0 (by omega), leN_snoc, hlk, hx]) ?_
  refine x_as rfl rfl trivial rfl ?_
  refine xl_nil ?_
  refine x_region rfl ?_
  refine x_addi rfl rfl trivial rfl rfl (by omega) ?_
  refine x_mv rfl rfl trivial rfl ?_
  refine xl_nil ?_
  exact ⟨1 - (k + 1), by omega, [(2, _), (3, _), (8, _), (9, _), (10, .int .i64 (k + 1 : Nat))], sB, k + 1, by omega, rfl, rfl, hw⟩
 have hke : k = 1 := by omega
 subst hke
 have hot : o.take 1 = o := List.take_of_length_le (by omega)
 rw [hot]
 refine x_exit rfl ?_
 refine x_seq ?_
 refine x_region rfl ?_
 refine x_mv rfl rfl trivial rfl ?_
 refine x_convE (v := ((leN o : Nat) : Int)) rfl rfl trivial (by kernel_rfl) U_uint64 U_uint8 rfl (w8 (by have := leN_lt o; rw [hol] at this; exact this)) ?_
 refine x_as rfl rfl trivial rfl ?_
 refine xl_nil ?_
 refine x_ret ?_
 exact end1 rfl rfl rfl ⟨rfl, hw.tail⟩
theorem wid_uint16 : ∀ j, j ≤ 2 → (0 < 65535 / 256 ^ j ↔ j < 2) := by decide
theorem ct_wire_width_uint16 (hw : Sat G L w) : Calls Tryz.prog 226 #[] w (Ret fun r w' => r = .int .i64 2 ∧ Sat G L w') := by
 refine calls_of_x (args := []) Tryz.func226 rfl Tryz.ntmps226 rfl rfl ?_
 refine x_seq ?_
 refine x_region rfl ?_
 refine x_as rfl rfl trivial rfl ?_
 refine xl_nil ?_
 refine x_seq ?_
 refine x_region rfl ?_
 refine x_as rfl rfl trivial rfl ?_
 refine xl_nil ?_
 refine x_seq ?_
 refine x_seq ?_
 refine x_region rfl ?_
 refine x_convE (v := 0) rfl rfl trivial (by kernel_rfl) U_int U_uint16 rfl (by decide) ?_
 refine x_com (v := 65535) rfl rfl trivial rfl (by decide) ?_
 refine x_convE (v := 65535) rfl rfl trivial (by kernel_rfl) U_uint16 U_uint64 rfl (by decide) ?_
 refine x_as rfl rfl trivial rfl ?_
 refine xl_nil ?_
 refine x_block ?_
 refine x_loop (fun m e w => ∃ j : Nat, j ≤ 2 ∧ m = 2 - j ∧ e = [(1, .int .i64 j), (2, .int .u64 ((65535 / 256 ^ j : Nat) : Int))] ∧ Sat G L w)
  (m := 2) (e₀ := [(1, .int .i64 (0 : Nat)), (2, .int .u64 ((65535 / 256 ^ 0 : Nat) : Int))]) sB
  ⟨0, Nat.zero_le _, rfl, rfl, hw⟩ ?_
 rintro m e w ⟨j, hj, rfl, rfl, hw⟩
 refine x_seq ?_
 refine x_seq ?_
 refine x_region rfl ?_
 refine x_mv rfl rfl trivial rfl ?_
 refine x_gt rfl rfl trivial rfl rfl ?_
 refine xl_nil ?_
 refine x_if rfl (fun h1 => ?_) (fun h1 => ?_)
 ·
  have hj' := (wid_uint16 j hj).1 (by omega)
  refine x_skip ?_
  refine x_seq ?_
  refine x_block ?_
  refine x_region rfl ?_
  refine x_mv rfl rfl trivial rfl ?_
  refine x_addi rfl rfl trivial rfl rfl (by omega) ?_
  refine x_as rfl rfl trivial rfl ?_
  refine xl_nil ?_
  refine x_region rfl ?_
  refine x_mv rfl rfl trivial rfl ?_
  refine x_shr (v := ((65535 / 256 ^ (j + 1) : Nat) : Int)) rfl rfl trivial rfl rfl (by decide) (by rw [shr8, Nat.div_div_eq_div_mul, ← Nat.pow_succ]) ?_
  refine x_as rfl rfl trivial rfl ?_
  refine xl_nil ?_
  exact ⟨2 - (j + 1), by omega, [(1, .int .i64 (j + 1 : Nat)), (2, _)], sB, j + 1, by omega, rfl, rfl, hw⟩
 have hj' : j = 2 := by
  have h2 := (wid_uint16 j hj).2
  refine Decidable.byContradiction fun hn => ?_
  have := h2 (by omega)
  omega
 subst hj'
 refine x_exit rfl ?_
 refine x_seq ?_
 refine x_region rfl ?_
 refine x_mv rfl rfl trivial rfl ?_
 refine x_as rfl rfl trivial rfl ?_
 refine xl_nil ?_
 refine x_ret ?_
 exact end1 rfl rfl rfl ⟨rfl, hw⟩
theorem ct_wire_Get_uint16_1 {p : Nat} (hw : Sat G (wrd q b 0 :: blk p [.pointer (some ⟨q, 0, none⟩)] 107 :: L) w) (hn : 2 ≤ b.length) (hl : b.length ≤ 1000000000000) :
  Calls Tryz.prog 237 #[.pointer (some ⟨p, 0, none⟩)] w (Ret fun r w' => r = .int .u16 ((leN (b.take 2) : Nat) : Int) ∧ Sat G (wrd q (b.drop 2) 0 :: blk p [.pointer (some ⟨q, 0, none⟩)] 107 :: L) w') := by
 have hol : (b.take 2).length = 2 := by rw [List.length_take]; omega
 refine calls_of_x (args := [_]) Tryz.func237 rfl Tryz.ntmps237 rfl rfl ?_
 refine x_seq ?_
 refine x_region rfl ?_
 refine x_as rfl rfl trivial rfl ?_
 refine xl_nil ?_
 refine x_seq ?_
 refine x_draw [0, 1, 2, 3] mixed (by kernel_rfl) ?_
 replace hw := hw.drawn (w.drawn + 1)
 refine x_ld rfl rfl trivial rfl (Loads.blk1 one_p_wire_Reader hw pK rfl) ?_
 refine x_callP rfl rfl trivial cal_wire_width_uint16 rfl (ct_wire_width_uint16 hw) (fun w v6 hv q' hq => ?_) (fun w v6 hv => ?_)
 ·
  obtain ⟨rfl, hw⟩ := hv
  have hq := pend_mem (l := [0]) (by kernel_rfl) hq
  simp only [List.mem_cons, List.not_mem_nil, or_false] at hq
  subst hq
  exact chk_ld rfl rfl rfl (Loads.blk1 one_p_wire_Reader hw pK rfl)
 obtain ⟨rfl, hw⟩ := hv
 refine x_call rfl rfl trivial cal_wire_Reader_take rfl (ct_wire_Reader_take (n := 2) hw hn hl) (by kernel_rfl) (fun w v7 hv => ?_)
 have hw := hv
 obtain ⟨o, ho⟩ : ∃ o, o = b.take 2 := ⟨_, rfl⟩
 rw [← ho] at hw hol ⊢
 have hk7 : ∀ M, Knows (row 5 1 v7 2 (bys o) :: M) (SlB v7 o) := fun M => by have h := (SlB.row (T := 5) (v := v7) (l := o)).head M; rw [hol] at h; exact h
 obtain ⟨a7, c7, e7⟩ := (((hk7 _).of (L' := row 5 1 v7 2 (bys o) :: wrd q (b.drop 2) 0 :: blk p [.pointer (some ⟨q, 0, none⟩)] 107 :: L) sF).at (hw.bring (As := [row 5 1 v7 _ _]) bR)).form
 rw [hol] at e7
 subst e7
 refine x_as rfl rfl trivial rfl ?_
 refine xl_nil ?_
 refine x_seq ?_
 refine x_region rfl ?_
 refine x_as rfl rfl trivial rfl ?_
 refine xl_nil ?_
 refine x_seq ?_
 refine x_seq ?_
 refine x_region rfl ?_
 refine x_mv rfl rfl trivial rfl ?_
 refine x_len rfl rfl trivial (by kernel_rfl) U_sl_uint8 rfl ?_
 refine x_mv rfl rfl trivial rfl ?_
 refine xl_nil ?_
 refine x_block ?_
 refine x_loop (fun m e w => ∃ k : Nat, k ≤ 2 ∧ m = 2 - k ∧ e = [(2, .slice a7 2 c7), (3, .int .u64 ((leN (o.take k) : Nat) : Int)), (8, .slice a7 2 c7), (9, .int .i64 (2 : Nat)), (10, .int .i64 k)] ∧ Sat G (row 5 1 (.slice a7 2 c7) 2 (bys o) :: wrd q (b.drop 2) 0 :: blk p [.pointer (some ⟨q, 0, none⟩)] 107 :: L) w)
  (m := 2) (e₀ := [(2, .slice a7 2 c7), (3, .int .u64 ((leN (o.take 0) : Nat) : Int)), (8, .slice a7 2 c7), (9, .int .i64 (2 : Nat)), (10, .int .i64 (0 : Nat))]) sB
  ⟨0, Nat.zero_le _, rfl, rfl, hw.bring (As := [row 5 1 _ _ _]) bR⟩ ?_
 rintro m e w ⟨k, hk, rfl, rfl, hw⟩
 refine x_seq ?_
 refine x_region rfl ?_
 refine x_lt rfl rfl trivial rfl rfl ?_
 refine xl_nil ?_
 refine x_seq ?_
 refine x_if rfl (fun h1 => ?_) (fun h1 => ?_)
 ·
  have hk' : k < 2 := by omega
  have hk8 : k < 8 := by omega
  have hsl := (hk7 _).at hw
  have hsl' := hsl
  rw [show (2 : Nat) = o.length from hol.symm] at hsl'
  obtain ⟨bb, oo, rfl⟩ := hsl'.nn (by omega)
  obtain ⟨x, hx⟩ : ∃ x, x = o.getD k 0 := ⟨_, rfl⟩
  refine x_skip ?_
  refine x_seq ?_
  refine x_block ?_
  refine x_seq ?_
  refine x_region rfl ?_
  refine x_mv rfl rfl trivial rfl ?_
  refine x_as rfl rfl trivial rfl ?_
  refine xl_nil ?_
  refine x_region rfl ?_
  refine x_mv rfl rfl trivial rfl ?_
  refine x_mv rfl rfl trivial rfl ?_
  refine x_mv rfl rfl trivial rfl ?_
  refine x_idx1 rfl rfl trivial U_sl_uint8 sz_uint8 rfl rfl ⟨by omega, by omega⟩ ?_
  refine x_ld rfl rfl trivial rfl (Loads.one (v := bv x) one_uint8 (by have h := hsl'.at (i := (k : Int)) ⟨by omega, by omega⟩; rw [hx]; exact h)) ?_
  refine x_convE (v := (x.toNat : Int)) rfl rfl trivial (by kernel_rfl) U_uint8 U_uint64 rfl (byte64 x) ?_
  refine x_mv rfl rfl trivial rfl ?_
  refine x_muli rfl rfl trivial rfl rfl (by omega) ?_
  refine x_shl (v := IntKind.u64.wrap ((x.toNat : Int) * 2 ^ min (8 * (k : Int)).toNat IntKind.u64.bits)) rfl rfl trivial rfl rfl (by omega) rfl ?_
  refine x_orE (v := ((leN (o.take (k + 1)) : Nat) : Int)) rfl rfl trivial rfl rfl (by
   have hlt := leN_lt (o.take k)
   have hlk : (o.take k).length = k := by rw [List.length_take]; omega
   rw [hlk] at hlt
   rw [or64 hk8 hlt x.toNat_lt, take_succ_getD o k 0 (by omega), leN_snoc, hlk, hx]) ?_
  refine x_as rfl rfl trivial rfl ?_
  refine xl_nil ?_
  refine x_region rfl ?_
  refine x_addi rfl rfl trivial rfl rfl (by omega) ?_
  refine x_mv rfl rfl trivial rfl ?_
  refine xl_nil ?_
  exact ⟨2 - (k + 1), by omega, [(2, _), (3, _), (8, _), (9, _), (10, .int .i64 (k + 1 : Nat))], sB, k + 1, by omega, rfl, rfl, hw⟩
 have hke : k = 2 := by omega
 subst hke
 have hot : o.take 2 = o := List.take_of_length_le (by omega)
 rw [hot]
 refine x_exit rfl ?_
 refine x_seq ?_
 refine x_region rfl ?_
 refine x_mv rfl rfl trivial rfl ?_
 refine x_convE (v := ((leN o : Nat) : Int)) rfl rfl trivial (by kernel_rfl) U_uint64 U_uint16 rfl (w16 (by have := leN_lt o; rw [hol] at this; exact this)) ?_
 refine x_as rfl rfl trivial rfl ?_
 refine xl_nil ?_
 refine x_ret ?_
 exact end1 rfl rfl rfl ⟨rfl, hw.tail⟩
theorem wid_uint32 : ∀ j, j ≤ 4 → (0 < 4294967295 / 256 ^ j ↔ j < 4) := by decide
theorem ct_wire_width_uint32 (hw : Sat G L w) : Calls Tryz.prog 93 #[] w (Ret fun r w' => r = .int .i64 4 ∧ Sat G L w') := by
 refine calls_of_x (args := []) Tryz.func93 rfl Tryz.ntmps93 rfl rfl ?_
 refine x_seq ?_
 refine x_region rfl ?_
 refine x_as rfl rfl trivial rfl ?_
 refine xl_nil ?_
 refine x_seq ?_
 refine x_region rfl ?_
 refine x_as rfl rfl trivial rfl ?_
 refine xl_nil ?_
 refine x_seq ?_
 refine x_seq ?_
 refine x_region rfl ?_
 refine x_convE (v := 0) rfl rfl trivial (by kernel_rfl) U_int U_uint32 rfl (by decide) ?_
 refine x_com (v := 4294967295) rfl rfl trivial rfl (by decide) ?_
 refine x_convE (v := 4294967295) rfl rfl trivial (by kernel_rfl) U_uint32 U_uint64 rfl (by decide) ?_
 refine x_as rfl rfl trivial rfl ?_
 refine xl_nil ?_
 refine x_block ?_
 refine x_loop (fun m e w => ∃ j : Nat, j ≤ 4 ∧ m = 4 - j ∧ e = [(1, .int .i64 j), (2, .int .u64 ((4294967295 / 256 ^ j : Nat) : Int))] ∧ Sat G L w)
  (m := 4) (e₀ := [(1, .int .i64 (0 : Nat)), (2, .int .u64 ((4294967295 / 256 ^ 0 : Nat) : Int))]) sB
  ⟨0, Nat.zero_le _, rfl, rfl, hw⟩ ?_
 rintro m e w ⟨j, hj, rfl, rfl, hw⟩
 refine x_seq ?_
 refine x_seq ?_
 refine x_region rfl ?_
 refine x_mv rfl rfl trivial rfl ?_
 refine x_gt rfl rfl trivial rfl rfl ?_
 refine xl_nil ?_
 refine x_if rfl (fun h1 => ?_) (fun h1 => ?_)
 ·
  have hj' := (wid_uint32 j hj).1 (by omega)
  refine x_skip ?_
  refine x_seq ?_
  refine x_block ?_
  refine x_region rfl ?_
  refine x_mv rfl rfl trivial rfl ?_
  refine x_addi rfl rfl trivial rfl rfl (by omega) ?_
  refine x_as rfl rfl trivial rfl ?_
  refine xl_nil ?_
  refine x_region rfl ?_
  refine x_mv rfl rfl trivial rfl ?_
  refine x_shr (v := ((4294967295 / 256 ^ (j + 1) : Nat) : Int)) rfl rfl trivial rfl rfl (by decide) (by rw [shr8, Nat.div_div_eq_div_mul, ← Nat.pow_succ]) ?_
  refine x_as rfl rfl trivial rfl ?_
  refine xl_nil ?_
  exact ⟨4 - (j + 1), by omega, [(1, .int .i64 (j + 1 : Nat)), (2, _)], sB, j + 1, by omega, rfl, rfl, hw⟩
 have hj' : j = 4 := by
  have h2 := (wid_uint32 j hj).2
  refine Decidable.byContradiction fun hn => ?_
  have := h2 (by omega)
  omega
 subst hj'
 refine x_exit rfl ?_
 refine x_seq ?_
 refine x_region rfl ?_
 refine x_mv rfl rfl trivial rfl ?_
 refine x_as rfl rfl trivial rfl ?_
 refine xl_nil ?_
 refine x_ret ?_
 exact end1 rfl rfl rfl ⟨rfl, hw⟩
theorem ct_wire_Get_uint32_1 {p : Nat} (hw : Sat G (wrd q b 0 :: blk p [.pointer (some ⟨q, 0, none⟩)] 107 :: L) w) (hn : 4 ≤ b.length) (hl : b.length ≤ 1000000000000) :
  Calls Tryz.prog 91 #[.pointer (some ⟨p, 0, none⟩)] w (Ret fun r w' => r = .int .u32 ((leN (b.take 4) : Nat) : Int) ∧ Sat G (wrd q (b.drop 4) 0 :: blk p [.pointer (some ⟨q, 0, none⟩)] 107 :: L) w') := by
 have hol : (b.take 4).length = 4 := by rw [List.length_take]; omega
 refine calls_of_x (args := [_]) Tryz.func91 rfl Tryz.ntmps91 rfl rfl ?_
 refine x_seq ?_
 refine x_region rfl ?_
 refine x_as rfl rfl trivial rfl ?_
 refine xl_nil ?_
 refine x_seq ?_
 refine x_draw [0, 1, 2, 3] mixed (by kernel_rfl) ?_
 replace hw := hw.drawn (w.drawn + 1)
 refine x_ld rfl rfl trivial rfl (Loads.blk1 one_p_wire_Reader hw pK rfl) ?_
 refine x_callP rfl rfl trivial cal_wire_width_uint32 rfl (ct_wire_width_uint32 hw) (fun w v6 hv q' hq => ?_) (fun w v6 hv => ?_)
 ·
  obtain ⟨rfl, hw⟩ := hv
  have hq := pend_mem (l := [0]) (by kernel_rfl) hq
  simp only [List.mem_cons, List.not_mem_nil, or_false] at hq
  subst hq
  exact chk_ld rfl rfl rfl (Loads.blk1 one_p_wire_Reader hw pK rfl)
 obtain ⟨rfl, hw⟩ := hv
 refine x_call rfl rfl trivial cal_wire_Reader_take rfl (ct_wire_Reader_take (n := 4) hw hn hl) (by kernel_rfl) (fun w v7 hv => ?_)
 have hw := hv
 obtain ⟨o, ho⟩ : ∃ o, o = b.take 4 := ⟨_, rfl⟩
 rw [← ho] at hw hol ⊢
 have hk7 : ∀ M, Knows (row 5 1 v7 4 (bys o) :: M) (SlB v7 o) := fun M => by have h := (SlB.row (T := 5) (v := v7) (l := o)).head M; rw [hol] at h; exact h
 obtain ⟨a7, c7, e7⟩ := (((hk7 _).of (L' := row 5 1 v7 4 (bys o) :: wrd q (b.drop 4) 0 :: blk p [.pointer (some ⟨q, 0, none⟩)] 107 :: L) sF).at (hw.bring (As := [row 5 1 v7 _ _]) bR)).form
 rw [hol] at e7
 subst e7
 refine x_as rfl rfl trivial rfl ?_
 refine xl_nil ?_
 refine x_seq ?_
 refine x_region rfl ?_
 refine x_as rfl rfl trivial rfl ?_
 refine xl_nil ?_
 refine x_seq ?_
 refine x_seq ?_
 refine x_region rfl ?_
 refine x_mv rfl rfl trivial rfl ?_
 refine x_len rfl rfl trivial (by kernel_rfl) U_sl_uint8 rfl ?_
 refine x_mv rfl rfl trivial rfl ?_
 refine xl_nil ?_
 refine x_block ?_
 refine x_loop (fun m e w => ∃ k : Nat, k ≤ 4 ∧ m = 4 - k ∧ e = [(2, .slice a7 4 c7), (3, .int .u64 ((leN (o.take k) : Nat) : Int)), (8, .slice a7 4 c7), (9, .int .i64 (4 : Nat)), (10, .int .i64 k)] ∧ Sat G (row 5 1 (.slice a7 4 c7) 4 (bys o) :: wrd q (b.drop 4) 0 :: blk p [.pointer (some ⟨q, 0, none⟩)] 107 :: L) w)
  (m := 4) (e₀ := [(2, .slice a7 4 c7), (3, .int .u64 ((leN (o.take 0) : Nat) : Int)), (8, .slice a7 4 c7), (9, .int .i64 (4 : Nat)), (10, .int .i64 (0 : Nat))]) sB
  ⟨0, Nat.zero_le _, rfl, rfl, hw.bring (As := [row 5 1 _ _ _]) bR⟩ ?_
 rintro m e w ⟨k, hk, rfl, rfl, hw⟩
 refine x_seq ?_
 refine x_region rfl ?_
 refine x_lt rfl rfl trivial rfl rfl ?_
 refine xl_nil ?_
 refine x_seq ?_
 refine x_if rfl (fun h1 => ?_) (fun h1 => ?_)
 ·
  have hk' : k < 4 := by omega
  have hk8 : k < 8 := by omega
  have hsl := (hk7 _).at hw
  have hsl' := hsl
  rw [show (4 : Nat) = o.length from hol.symm] at hsl'
  obtain ⟨bb, oo, rfl⟩ := hsl'.nn (by omega)
  obtain ⟨x, hx⟩ : ∃ x, x = o.getD k 0 := ⟨_, rfl⟩
  refine x_skip ?_
  refine x_seq ?_
  refine x_block ?_
  refine x_seq ?_
  refine x_region rfl ?_
  refine x_mv rfl rfl trivial rfl ?_
  refine x_as rfl rfl trivial rfl ?_
  refine xl_nil ?_
  refine x_region rfl ?_
  refine x_mv rfl rfl trivial rfl ?_
  refine x_mv rfl rfl trivial rfl ?_
  refine x_mv rfl rfl trivial rfl ?_
  refine x_idx1 rfl rfl trivial U_sl_uint8 sz_uint8 rfl rfl ⟨by omega, by omega⟩ ?_
  refine x_ld rfl rfl trivial rfl (Loads.one (v := bv x) one_uint8 (by have h := hsl'.at (i := (k : Int)) ⟨by omega, by omega⟩; rw [hx]; exact h)) ?_
  refine x_convE (v := (x.toNat : Int)) rfl rfl trivial (by kernel_rfl) U_uint8 U_uint64 rfl (byte64 x) ?_
  refine x_mv rfl rfl trivial rfl ?_
  refine x_muli rfl rfl trivial rfl rfl (by omega) ?_
  refine x_shl (v := IntKind.u64.wrap ((x.toNat : Int) * 2 ^ min (8 * (k : Int)).toNat IntKind.u64.bits)) rfl rfl trivial rfl rfl (by omega) rfl ?_
  refine x_orE (v := ((leN (o.take (k + 1)) : Nat) : Int)) rfl rfl trivial rfl rfl (by
   have hlt := leN_lt (o.take k)
   have hlk : (o.take k).length = k := by rw [List.length_take]; omega
   rw [hlk] at hlt
   rw [or64 hk8 hlt x.toNat_lt, take_succ_getD o k 0 (by omega), leN_snoc, hlk, hx]) ?_
  refine x_as rfl rfl trivial rfl ?_
  refine xl_nil ?_
  refine x_region rfl ?_
  refine x_addi rfl rfl trivial rfl rfl (by omega) ?_
  refine x_mv rfl rfl trivial rfl ?_
  refine xl_nil ?_
  exact ⟨4 - (k + 1), by omega, [(2, _), (3, _), (8, _), (9, _), (10, .int .i64 (k + 1 : Nat))], sB, k + 1, by omega, rfl, rfl, hw⟩
 have hke : k = 4 := by omega
 subst hke
 have hot : o.take 4 = o := List.take_of_length_le (by omega)
 rw [hot]
 refine x_exit rfl ?_
 refine x_seq ?_
 refine x_region rfl ?_
 refine x_mv rfl rfl trivial rfl ?_
 refine x_convE (v := ((leN o : Nat) : Int)) rfl rfl trivial (by kernel_rfl) U_uint64 U_uint32 rfl (w32 (by have := leN_lt o; rw [hol] at this; exact this)) ?_
 refine x_as rfl rfl trivial rfl ?_
 refine xl_nil ?_
 refine x_ret ?_
 exact end1 rfl rfl rfl ⟨rfl, hw.tail⟩
end
def bodyEndD (P : Program) (n : Nat) (fn : Func) (R : Value → World → Prop) : Cont := fun e w =>
 marks e = [] ∧ ∀ a, Agree n e a → ∃ v, (results fn a.tmps).run P w = .ok v w ∧ R v w
section
variable {P : Program} {n : Nat} {fn : Func} {R : Value → World → Prop} {e : Env} {w : World}
theorem endD0 (hr : fn.results = #[]) (hm : marks e = []) (h : R (.tuple #[]) w) : bodyEndD P n fn R e w := ⟨hm, fun a _ => ⟨.tuple #[], by simp [results, hr], h⟩⟩
end
def outP (K : Cont) (E : List (Nat × Cont)) (F : Cont) (Pn : List PanicEntry → Cont) (n : Nat) : Exit → Act → World → Prop
 | .normal, a, w => ∃ e, Agree n e a ∧ K e w
 | .ret, a, w => ∃ e, Agree n e a ∧ F e w
 | .exit id, a, w => ∃ K', extOf E id = some K' ∧ ∃ e, Agree n e a ∧ K' e w
 | .panic ch, a, w => ∃ e, Agree n e a ∧ Pn ch e w
 | _, _, _ => False
def XP (P : Program) (n : Nat) (c : Code) (K : Cont) (E : List (Nat × Cont)) (F : Cont) (Pn : List PanicEntry → Cont) (e : Env) (w : World) : Prop := ∀ a, Agree n e a → c.wpIn (Fw none) 0 P (outP K E F Pn n) a w
section
variable {P : Program} {n : Nat} {c x y : Code} {K F : Cont} {E : List (Nat × Cont)} {Pn : List PanicEntry → Cont} {e : Env} {w : World}
theorem xp_of (h : X P n none c K E F e w) : XP P n c K E F Pn e w := fun a ha => wpIn_mono (h a ha) fun ex a w hq => by
 cases ex <;> simp only [outAt] at hq <;> exact hq
theorem xp_seq (h : XP P n x (XP P n y K E F Pn) E F Pn e w) : XP P n (.seq x y) K E F Pn e w := fun a ha =>
 wpIn_seq (wpIn_mono (h a ha) fun ex a w hq => by
  cases ex <;> simp only [outP] at hq <;> simp only [Exit.then]
  case normal => obtain ⟨e, h1, h2⟩ := hq; exact h2 a h1
  case ret => exact hq
  case exit id => exact hq
  case panic ch => exact hq)
theorem xp_if {cnd : Operand} {p : Prop} [Decidable p] (hc : ev e cnd = some (.bool (decide p))) (ht : p → XP P n x K E F Pn e w) (hf : ¬ p → XP P n y K E F Pn e w) : XP P n (.cond cnd x y) K E F Pn e w := fun a ha =>
 wpIn_cond_split (ha.ev hc) (fun h => ht (of_decide_eq_true h) a ha) (fun h => hf (of_decide_eq_false h) a ha)
theorem wpOps_pre {ops : Array Oper} {Q : Exit → Act → World → Prop} {rest : List Nat} : ∀ (l : List Nat) (a : Act) (w : World), SN P ops (wpOpsIn (Fw none) 0 P ops Q rest) l a w → wpOpsIn (Fw none) 0 P ops Q (l ++ rest) a w
 | [], _, _, h => h
 | i :: r, a, w, h => by
  rw [List.cons_append, wpOpsIn_cons]
  simp only [SN] at h
  cases ho : ops[i]? with
  | none => rw [ho] at h; exact h.elim
  | some o =>
   rw [ho] at h
   exact wpOp_of_SOp ho (fun a' w' h' => wpOps_pre r a' w' h') h
theorem xp_call {id : Nat} {ops : Array Oper} {z : Operand} {d : Nat} {xs : Array Operand} {ts : Array TypeId} {t : TypeId} {p : String} {af : Array Edge} (pre : List Nat) (i : Nat) (post : List Nat) (hl : List.range ops.size = pre ++ i :: post)
  (ho : ops[i]? = some ⟨some d, .call ⟨.value z, xs, ts⟩, t, p, af, none⟩) (hd : Nat.blt d n = true)
  (h : XL P n ops false [] pre (fun e' w' => ∃ (f : FuncId) (c1 c2 : Array Value) (args : List Value) (R : Ending → World → Prop), ev e' z = some (.func (.func f) c1 c2) ∧ Callable P f ∧ evs e' xs.toList = some args ∧ Calls P f (c1.toList ++ args ++ c2.toList).toArray w' R ∧
   (∀ v w'', R (.returned v) w'' → XL P n ops false [] post K ((d, v) :: e') w'') ∧ (∀ ch w'', R (.panicked ch) w'' → Pn ch e' w'') ∧ ∀ w'', ¬ R .outgrown w'') e w) : XP P n (.region id ops false) K E F Pn e w := fun a ha => by
 refine wpIn_region ?_
 rw [hl]
 refine wpOps_pre pre a w (SN_mono (fun a' w' hx => ?_) pre a w (h a ha))
 obtain ⟨e', ha', f, c1, c2, args, R, hz, ⟨fn, hf, hb1, hb2⟩, hargs, hc, hret, hpan, hout⟩ := hx
 obtain ⟨hk, hm⟩ := evs_mem hargs
 rw [wpOpsIn_cons]
 unfold wpOpIn
 simp only [ho]
 rw [if_pos (by simp [Region.wanted])]
 refine ⟨fun _ _ => trivial, ?_⟩
 have hev : a'.eval z = .func (.func f) c1 c2 := ha'.ev hz
 have hxs : xs.map a'.eval = args.toArray := by
  apply Array.ext'
  simp only [Array.toList_map]
  rw [← hm]
  exact List.map_congr_left fun q hq => ha'.ev (hk q hq)
 have hrun : ((execOp a'.eval (⟨some d, .call ⟨.value z, xs, ts⟩, t, p, af, none⟩ : Oper))).run P w' = .ok (.enter f (c1.toList ++ args ++ c2.toList).toArray) w' := by
  have e1 : c1 ++ args.toArray ++ c2 = (c1.toList ++ args ++ c2.toList).toArray := by apply Array.ext'; simp
  simp only [execOp, resolve, hev, Deferred.ofValue, invoke, callFunc, hxs, e1, Sem.run_bind, Sem.run_pure, Result.andThen_ok, program, Sem.run, hf, hb1, hb2]
  simp
 show Oper.uponIn (Fw none) 0 P (⟨some d, .call ⟨.value z, xs, ts⟩, t, p, af, none⟩ : Oper) a' _ _ ((execOp a'.eval (⟨some d, .call ⟨.value z, xs, ts⟩, t, p, af, none⟩ : Oper)).run P w')
 rw [hrun, Oper.uponIn_enter]
 refine ⟨(fun hd => by cases hd), Calls.fw (Calls.mono hc fun en w'' hR => ?_) _ _⟩
 cases en with
 | returned v => exact wpOps_of_SN _ _ _ (hret v w'' hR _ (ha'.put (by simpa using hd) v))
 | panicked ch => exact ⟨e', ha', hpan ch w'' hR⟩
 | outgrown => exact absurd hR (hout w'')
theorem xp_panic {id : Nat} {ops : Array Oper} {z : Operand} {t : TypeId} {p : String} {af : Array Edge} (pre : List Nat) (i : Nat) (hl : List.range ops.size = pre ++ [i])
  (ho : ops[i]? = some ⟨none, .panic z, t, p, af, none⟩)
  (h : XL P n ops false [] pre (fun e' w' => ∃ T v, ev e' z = some (.iface T v) ∧ Pn [{ v := .iface T v, recovered := false }] e' w') e w) : XP P n (.region id ops false) K E F Pn e w := fun a ha => by
 refine wpIn_region ?_
 rw [hl]
 refine wpOps_pre pre a w (SN_mono (fun a' w' hx => ?_) pre a w (h a ha))
 obtain ⟨e', ha', T, v, hz, hp⟩ := hx
 rw [wpOpsIn_cons]
 unfold wpOpIn
 simp only [ho]
 rw [if_pos (by simp [Region.wanted])]
 refine ⟨fun _ _ => trivial, ?_⟩
 have hev : a'.eval z = .iface T v := ha'.ev hz
 have hrun : ((execOp a'.eval (⟨none, .panic z, t, p, af, none⟩ : Oper))).run P w' = .halt (.panic (.iface T v)) w' := by
  simp only [execOp, hev]
  rfl
 show Oper.uponIn (Fw none) 0 P (⟨none, .panic z, t, p, af, none⟩ : Oper) a' _ _ ((execOp a'.eval (⟨none, .panic z, t, p, af, none⟩ : Oper)).run P w')
 rw [hrun, Oper.uponIn_panic]
 exact ⟨e', ha', hp⟩
end
def endE (P : Program) (n : Nat) (fn : Func) (R : Ending → World → Prop) : Cont := fun e w => ∀ a, Agree n e a → LeavesInM (Fw none) 0 P fn a.tmps R a.defers .returning w
def endPn (P : Program) (n : Nat) (fn : Func) (R : Ending → World → Prop) (ch : List PanicEntry) : Cont := fun e w => ∀ a, Agree n e a → LeavesInM (Fw none) 0 P fn a.tmps R a.defers (.panicking ch) w
theorem calls_of_xp {P : Program} {f : FuncId} {fn : Func} {c : Code} {args : List Value} {w : World} {R : Ending → World → Prop} {n : Nat}
  (hf : P.funcs[f]? = some fn) (hb : fn.body = some c) (hn : fn.ntmps = n) (hle : Nat.ble args.length n = true) (hs : Nat.ble n 1000000 = true)
  (h : XP P n c (endE P n fn R) [] (endE P n fn R) (endPn P n fn R) (argEnv 0 args) w) : Calls P f args.toArray w R := by
 refine callsIn_wide (n := 0).1 (callsIn_of_wp_marks (F := Fw none) hf hb trivial ?_)
 refine wpIn_mono (h _ (by rw [hn]; exact agree_args hle hs)) fun ex a w hq => ?_
 cases ex <;> simp only [outP, extOf] at hq <;> simp only [bodyPostM]
 case normal => obtain ⟨e, ha, h1⟩ := hq; exact h1 a ha
 case ret => obtain ⟨e, ha, h1⟩ := hq; exact h1 a ha
 case exit => obtain ⟨K, hk, _⟩ := hq; cases hk
 case panic ch => obtain ⟨e, ha, h1⟩ := hq; exact h1 a ha
section
variable {P : Program} {n : Nat} {fn : Func} {R : Value → World → Prop} {R' : Ending → World → Prop} {e : Env} {w : World}
theorem endPn_plain {ch : List PanicEntry} (hm : marks e = []) (h : R' (.panicked ch) w) : endPn P n fn R' ch e w := fun a ha => by rw [ha.defers, hm]; exact h
theorem endE_of (h : bodyEnd P n fn R e w) (hr : ∀ en w, Ret R en w → R' en w) : endE P n fn R' e w := fun a ha => by
 have h1 := h a ha
 have key : ∀ (ds : List Deferred) (u : FrameMode) (w : World), LeavesInM (Fw none) 0 P fn a.tmps (Ret R) ds u w → LeavesInM (Fw none) 0 P fn a.tmps R' ds u w := by
  intro ds
  induction ds with
  | nil =>
   intro u w hh
   cases u with
   | run => exact hh
   | returning => obtain ⟨v, h1, h2⟩ := hh; exact ⟨v, h1, hr _ _ h2⟩
   | panicking ch => exact hr _ _ hh
  | cons d ds ih =>
   intro u w ⟨h0, hh⟩
   refine ⟨h0, hh.imp (fun ⟨r, w', a1, a2, a3⟩ => ⟨r, w', a1, a2, ih _ _ a3⟩) fun ⟨a1, fv, cap, f, args, a2, a3, a4, a5⟩ => ⟨a1, fv, cap, f, args, a2, a3, a4, CallsDIn.mono a5 fun en u' w' hq => ?_⟩⟩
   cases en with
   | returned v => exact ih _ _ hq
   | panicked ch => exact ih _ _ hq
   | outgrown => exact hr _ _ hq
 exact key _ _ _ h1
def recV : FrameMode → Value × FrameMode
 | .panicking ({ v, recovered := false, goexit := false } :: older) => (v, .panicking ({ v, recovered := true } :: older))
 | u => (.nilIface, u)
theorem recD_of_x {f : FuncId} {rest : Code} {id d d2 : Nat} {t t2 : TypeId} {p p2 : String} {af af2 : Array Edge} {args : List Value} {u : FrameMode}
  (hf : P.funcs[f]? = some fn) (hb : fn.body = some (.seq (.region id #[⟨some d, .call ⟨.builtin .recover, #[], #[]⟩, t, p, af, none⟩, ⟨some d2, .assign (.tmp d), t2, p2, af2, none⟩] false) rest)) (hn : fn.ntmps = n) (hle : Nat.ble args.length n = true) (hs : Nat.ble n 1000000 = true)
  (hd : Nat.blt d n = true) (hd2 : Nat.blt d2 n = true)
  (h : X P n none rest (bodyEndD P n fn R) [] (bodyEndD P n fn R) ((d2, (recV u).1) :: (d, (recV u).1) :: argEnv 0 args) w) : CallsDIn (Fw none) 0 P f args.toArray u w fun en u' w' => u' = (recV u).2 ∧ Ret R en w' := by
 refine callsDIn_of_wpSIn hf hb trivial fun c₀ cs hu => ?_
 refine wpSIn_seq (wpSIn_region ?_)
 have ha0 : Agree n (argEnv 0 args) { tmps := args.toArray ++ Array.replicate (fn.ntmps - args.toArray.size) undef, defers := [] } := by rw [hn]; exact agree_args hle hs
 obtain ⟨a0, ea0⟩ : ∃ a0 : Act, a0 = { tmps := args.toArray ++ Array.replicate (fn.ntmps - args.toArray.size) undef, defers := [] } := ⟨_, rfl⟩
 rw [← ea0] at ha0 ⊢
 have ha1 := ha0.put (show d < n by simpa using hd) (recV u).1
 have ha2 := ha1.put (show d2 < n by simpa using hd2) (recV u).1
 obtain ⟨a2, ea2⟩ : ∃ a2, a2 = (a0.put (some d) (recV u).1).put (some d2) (recV u).1 := ⟨_, rfl⟩
 rw [← ea2] at ha2
 have hfin : ∀ (cs' : List Frame), cs' = { c₀ with mode := (recV u).2 } :: cs → rest.wpSIn (Fw none) 0 P (bodyPostS P fn c₀ cs fun en u' w' => u' = (recV u).2 ∧ Ret R en w') a2 cs' w := fun cs' hcs => by
  refine wpSIn_of_wpIn rfl (wpIn_mono (h a2 ha2) fun ex a w hq => ?_)
  cases ex <;> simp only [outAt, extOf, bodyEndD] at hq <;> simp only [bodyPostS]
  case normal =>
   obtain ⟨e, ha, hm, h1⟩ := hq
   obtain ⟨v, hv, hR⟩ := h1 a ha
   exact ⟨by rw [ha.defers, hm]; rfl, _, hcs, v, hv, rfl, v, rfl, hR⟩
  case ret =>
   obtain ⟨e, ha, hm, h1⟩ := hq
   obtain ⟨v, hv, hR⟩ := h1 a ha
   exact ⟨by rw [ha.defers, hm]; rfl, _, hcs, v, hv, rfl, v, rfl, hR⟩
  case exit => obtain ⟨K, hk, _⟩ := hq; cases hk
 have hd1 : d < n := by simpa using hd
 have hd2 : n ≤ 1000000 := by simpa using hs
 have hne : d ≠ 1000000000 := by omega
 have hev : (a0.put (some d) (recV u).1).eval (.tmp d) = (recV u).1 := ha1.ev (x := .tmp d) (by simp only [ev, argEnv, get, Nat.beq_refl, beq_no hne, Bool.not_false, Bool.and_true, cond])
 have hrec : recoverD (c₀ :: cs) = (match recoverD (c₀ :: cs) with | some x => some x | none => none) := by cases recoverD (c₀ :: cs) <;> rfl
 show wpOpsSIn (Fw none) 0 P _ _ [0, 1] a0 (c₀ :: cs) w
 have two : ∀ (cs' : List Frame), cs' = { c₀ with mode := (recV u).2 } :: cs → wpOpsSIn (Fw none) 0 P #[⟨some d, .call ⟨.builtin .recover, #[], #[]⟩, t, p, af, none⟩, ⟨some d2, .assign (.tmp d), t2, p2, af2, none⟩] (Exit.thenS (rest.wpSIn (Fw none) 0 P (bodyPostS P fn c₀ cs fun en u' w' => u' = (recV u).2 ∧ Ret R en w')) (bodyPostS P fn c₀ cs fun en u' w' => u' = (recV u).2 ∧ Ret R en w')) [1] (a0.put (some d) (recV u).1) cs' w := fun cs' hcs => by
  have hrun : (execOp (a0.put (some d) (recV u).1).eval (⟨some d2, .assign (.tmp d), t2, p2, af2, none⟩ : Oper)).run P w = .ok (.value (recV u).1) w := by simp [execOp, hev]
  refine ⟨fun _ _ => trivial, ?_⟩
  rw [if_pos (by simp [Region.wanted])]
  erw [hrun]
  show Exit.thenS _ _ .normal _ _ _
  have := hfin cs' hcs
  rw [ea2] at this
  exact this
 refine ⟨fun _ _ => trivial, ?_⟩
 rw [if_pos (by simp [Region.wanted])]
 have hrun : (execOp a0.eval (⟨some d, .call ⟨.builtin .recover, #[], #[]⟩, t, p, af, none⟩ : Oper)).run P w = .ok .recover w := by simp [execOp, resolve, invoke, builtin]
 erw [hrun]
 subst hu
 have hr : recoverD (c₀ :: cs) = none ∧ c₀.mode = (recV c₀.mode).2 ∧ (recV c₀.mode).1 = .nilIface ∨ recoverD (c₀ :: cs) = some ((recV c₀.mode).1, { c₀ with mode := (recV c₀.mode).2 } :: cs) := by
  unfold recoverD
  cases hm : c₀.mode with
  | run => exact .inl ⟨by simp [hm], rfl, rfl⟩
  | returning => exact .inl ⟨by simp [hm], rfl, rfl⟩
  | panicking l =>
   cases l with
   | nil => exact .inl ⟨by simp [hm], rfl, rfl⟩
   | cons x l =>
    obtain ⟨v, r, g⟩ := x
    cases r <;> cases g
    ·exact .inr (by simp [hm, recV])
    ·exact .inl ⟨by simp [hm], rfl, rfl⟩
    ·exact .inl ⟨by simp [hm], rfl, rfl⟩
    exact .inl ⟨by simp [hm], rfl, rfl⟩
 rcases hr with ⟨h1, h2, h3⟩ | h1
 ·simp only [h1]
  have h4 := two (c₀ :: cs) (by rw [← h2])
  rw [h3] at h4
  exact h4
 simp only [h1]
 exact two _ rfl
theorem leave_rec {fn' : FuncId} {first captured : Array Value} {v : Value} {Q : Value → World → Prop} (hm : marks e = [.func (.func fn') first captured]) (hb : (∃ f, P.funcs[fn']? = some f ∧ (f.name == "runtime.NumGoroutine") = false ∧ f.body.isNone = false))
  (hc : CallsDIn (Fw none) 0 P fn' (first ++ captured) (.panicking [{ v := v, recovered := false }]) w fun en u' w' => u' = .panicking [{ v := v, recovered := true }] ∧ Ret Q en w') (h : ∀ x w', Q x w' → Leave P n fn R e [] w') : endPn P n fn (Ret R) [{ v := v, recovered := false }] e w := fun a ha => by
 rw [ha.defers, hm]
 refine ⟨by simp, .inr ⟨(fun hd => by cases hd), .func fn', captured, fn', first ++ captured, rfl, ?_, fun _ _ => trivial, hc.1, fun c cs hm hr => ?_⟩⟩
 ·obtain ⟨f, h1, h2, h3⟩ := hb
  simp only [dfr, invoke, callFunc, Sem.run_bind, Sem.run_pure, Result.andThen_ok, program, Sem.run, h1, h2, h3]
  simp
 obtain ⟨en, u', w', fr, ⟨hu, x, hv, hQ⟩, hs, hk, hf, hg⟩ := hc.2 c cs hm (room_fw none _)
 subst hv
 exact ⟨_, u', w', fr, by subst hu; exact h x w' hQ a ha, hs, hk, hf, hg⟩
end
theorem ba_size (l : Bys) : (⟨l.toArray⟩ : ByteArray).size = l.length := rfl
theorem ba_get (l : Bys) (i : Nat) : (⟨l.toArray⟩ : ByteArray)[i]! = l.getD i 0 := by
 by_cases h : i < l.length
 ·rw [getElem!_pos _ i (show i < (⟨l.toArray⟩ : ByteArray).size from h)]
  show l.toArray[i] = _
  simp [h]
 rw [getElem!_neg _ i (show ¬ i < (⟨l.toArray⟩ : ByteArray).size from h)]
 simp [List.getElem?_eq_none (Nat.le_of_not_lt h)]
 rfl
theorem cmp_eq : ∀ (a b : Bys), Extern.BytealgCompare.cmp ⟨a.toArray⟩ ⟨b.toArray⟩ = cmpB a b := by
 intro a b
 unfold Extern.BytealgCompare.cmp
 simp only [ba_size, ba_get]
 induction a generalizing b with
 | nil => cases b <;> simp [cmpB]
 | cons x a ih =>
  cases b with
  | nil => simp [cmpB]
  | cons y b =>
   have ih := ih b
   simp only [List.length_cons]
   rw [show min (a.length + 1) (b.length + 1) = min a.length b.length + 1 by omega, List.range_succ_eq_map, List.find?_cons]
   by_cases hxy : x = y
   ·subst hxy
    have e1 : cmpB (x :: a) (x :: b) = cmpB a b := by simp [cmpB]
    rw [e1, ← ih]
    simp only [List.getD_cons_zero, bne_self_eq_false, List.find?_map, Function.comp_def, List.getD_cons_succ, Nat.succ_eq_add_one]
    generalize (List.range (min a.length b.length)).find? (fun i => a.getD i 0 != b.getD i 0) = r
    cases r with
    | none => simp
    | some i => simp
   have hne : ((x :: a).getD 0 0 != (y :: b).getD 0 0) = true := by simpa using hxy
   simp only [hne, cmpB]
   simp only [List.getD_cons_zero]
   have hn : x.toNat ≠ y.toNat := fun h => hxy (UInt8.toNat_inj.1 h)
   by_cases hlt : x < y
   ·rw [if_pos hlt, if_pos (UInt8.lt_iff_toNat_lt.1 hlt)]
   have hlt' : ¬ x.toNat < y.toNat := fun h => hlt (UInt8.lt_iff_toNat_lt.2 h)
   rw [if_neg hlt, if_neg hlt', if_pos (by omega)]
theorem run_loadBytes {P : Program} {w : World} : ∀ (l : Bys) (b o : Nat) (acc : ByteArray), Rd w ⟨b, o, none⟩ (bys l) → (Extern.Bytes.loadBytes ⟨b, o, none⟩ l.length acc).run P w = .ok ⟨acc.data ++ l.toArray⟩ w
 | [], b, o, acc, _ => by simp [Extern.Bytes.loadBytes]
 | u :: l, b, o, acc, h => by
  have h0 : w.cell? ⟨b, o, none⟩ = some (bv u) := by have := h 0 (bv u) rfl; rwa [add_lit] at this
  have h1 : Rd w ⟨b, o + 1, none⟩ (bys l) := by have := h.drop 1; simpa [bys] using this
  have hl : (Go.load ⟨b, o, none⟩).run P w = .ok (bv u) w := by simp [Go.load, Sem.run, h0]
  simp only [List.length_cons, Extern.Bytes.loadBytes, Sem.run_bind, hl, Result.andThen_ok, bv]
  rw [add_lit, run_loadBytes l b (o + 1) _ h1]
  simp [ByteArray.push]
theorem run_bytesOf {P : Program} {w : World} {v : Value} {l : Bys} (h : SlB v l w) : (Extern.Bytes.bytesOf v).run P w = .ok ⟨l.toArray⟩ w := by
 rcases h with ⟨⟨a, rfl⟩, rfl⟩ | ⟨b, o, cap, rfl, -, h⟩
 ·cases a with
  | none => rfl
  | some a => rfl
 simp only [Extern.Bytes.bytesOf]
 rw [run_loadBytes l _ _ _ h]
 congr 1
 show (⟨(#[] : Array UInt8) ++ l.toArray⟩ : ByteArray) = _
 rw [Array.empty_append]
section
variable {P : Program} {n : Nat} {ops : Array Oper} {dr : Bool} {done r : List Nat} {K : Env → World → Prop} {e : Env} {w : World} {i d : Nat} {t : TypeId} {p : String} {af : Array Edge} {g : Option (Nat × Bool)}
theorem xl_andM {l l1 l2 : List Nat} (hl : l = l1 ++ l2) {d : Nat} (q : Prop) [Decidable q] (M : World → Prop) (hf : freshE (dsts ops l1) e = true) (h1 : XL P n ops dr done l1 (fun e' w' => M w' ∧ get e' d = some (.bool (decide q))) e w)
  (h2 : ∀ w, M w → XL P n ops dr (l1.reverse ++ done) l2 K ((d, .bool (decide q)) :: e) w) : XL P n ops dr done l K e w := by
 subst hl
 intro a ha
 have h := h1 a ha
 have key : ∀ (a' : Act) (w' : World), (∃ e', Agree n e' a' ∧ M w' ∧ get e' d = some (.bool (decide q))) → Kp (dsts ops l1) a a' → Agree n ((d, .bool (decide q)) :: e) a' ∧ M w' := fun a' w' ⟨e', ha', hw, hg⟩ hk => by
  refine ⟨⟨by rw [marks_cons (get_mk hg), hk.defers]; exact ha.defers, hk.size.trans ha.size, ha.small, fun t v hv => ?_⟩, hw⟩
  rcases get_cons hv with ⟨rfl, rfl⟩ | ⟨_, hv⟩
  ·exact ha'.get _ _ hg
  rw [hk.same t (freshE_get hf hv)]; exact ha.get t v hv
 have hS : ∀ i ∈ l1, ∀ o, ops[i]? = some o → ∀ t, o.dst = some t → (dsts ops l1).contains t = true := fun i hi o ho => dsts_mem hi ho
 cases dr
 ·exact SN_app l1 l2 a w (SN_mono (fun a' w' hx => by obtain ⟨h3, h4⟩ := key a' w' hx.1 hx.2; exact h2 w' h4 a' h3) _ _ _ (SN_keep _ _ _ hS h))
 exact SL_app l1 l2 done a w (SL_mono (fun a' w' hx => by obtain ⟨h3, h4⟩ := key a' w' hx.1 hx.2; exact h2 w' h4 a' h3) _ _ _ _ (SL_keep _ _ _ _ hS h))
theorem x_cmp {f : FuncId} {x y : Operand} {ts : Array TypeId} {va vb : Value} {la lb : Bys} (ho : ops[i]? = some ⟨some d, .call ⟨.value (.func f), #[x, y], ts⟩, t, p, af, g⟩) (hd : Nat.blt d n = true) (hg : Gd ops e g)
  (h1 : (P.funcs[f]?).map (fun fn => fn.body.isNone) = some true) (h2 : (P.funcs[f]?).bind (fun fn => Extern.find fn) = some Extern.BytealgCompare.compare) (h3 : (P.funcs[f]?).map (fun fn => (Extern.findNext fn).isNone) = some true) (h4 : (P.funcs[f]?).map (fun fn => (fn.name == "runtime.NumGoroutine")) = some false)
  (hx : ev e x = some va) (hy : ev e y = some vb) (ha : SlB va la w) (hb : SlB vb lb w) (hpd : pend P ops dr done i = [])
  (h : XL P n ops dr (i :: done) r K ((d, .int .i64 (cmpB la lb)) :: e) w) : XL P n ops dr done (i :: r) K e w := by
 refine xl_eff ho (by simpa [dstOk] using hd) hg (ρ := rh e) (by
  intro q hZ; simp [Op.operands, Call.operands] at hZ
  rcases hZ with rfl | hZ
  ·rfl
  ·exact oh2 hx hy hZ) rfl (v := .int .i64 (cmpB la lb)) (w' := w) ?_ (noPend hpd) h
 cases hf : P.funcs[f]? with
 | none => simp [hf] at h1
 | some fn =>
  have h1' : fn.body.isNone = true := by simpa [hf] using h1
  have h2' : Extern.find fn = some Extern.BytealgCompare.compare := by simpa [hf] using h2
  have h3' : Extern.findNext fn = none := by simpa [hf] using h3
  have h4' : (fn.name == "runtime.NumGoroutine") = false := by simpa [hf] using h4
  have hr : (Extern.BytealgCompare.compare #[va, vb]).run P w = .ok (.int .i64 (cmpB la lb)) w := by
   have e1 : Extern.BytealgCompare.compare #[va, vb] = (do let a ← Extern.Bytes.bytesOf va; let b ← Extern.Bytes.bytesOf vb; pure (goInt (Extern.BytealgCompare.cmp a b))) := rfl
   rw [e1]
   simp only [Sem.run_bind, run_bytesOf ha, run_bytesOf hb, Result.andThen_ok, Sem.run_pure, cmp_eq, goInt]
  simp only [execOp, resolve, show rh e (.func f) = .func (.func f) #[] #[] from rfl, Deferred.ofValue, invoke, callFunc, Sem.run_bind, Sem.run_pure, Result.andThen_ok, program, Sem.run, hf, h1', h2', h3', h4']
  simp [rh_of hx, rh_of hy, hr, Sem.run_bind, mark, Sem.run]
end
section
variable {G : Gh} {L R : List Assn} {w : World}
theorem ct_bytes_Compare {v v' : Value} {l l' : Bys} (hw : Sat G L w) (ka : Knows L (SlB v l)) (kb : Knows L (SlB v' l')) :
  Calls Tryz.prog 168 #[v, v'] w (Ret fun r w' => r = .int .i64 (cmpB l l') ∧ Sat G L w') := by
 refine calls_of_x (args := [_, _]) Tryz.func168 rfl Tryz.ntmps168 rfl rfl ?_
 refine x_seq ?_
 refine x_region rfl ?_
 refine x_as rfl rfl trivial rfl ?_
 refine xl_nil ?_
 refine x_seq ?_
 refine x_region rfl ?_
 refine x_mv rfl rfl trivial rfl ?_
 refine x_mv rfl rfl trivial rfl ?_
 refine x_cmp rfl rfl trivial (by kernel_rfl) (by kernel_rfl) (by kernel_rfl) (by kernel_rfl) rfl rfl (ka.at hw) (kb.at hw) rfl ?_
 refine x_as rfl rfl trivial rfl ?_
 refine xl_nil ?_
 refine x_ret ?_
 exact end1 rfl rfl rfl ⟨rfl, hw⟩
end
structure Mk where
 items : Nat
 bytes : Nat
 sum : Nat
deriving DecidableEq
structure Ch where
 kind : Nat
 key : Bys
 old : Bys
 new : Bys
structure Hd where
 whole : Bool
 base : Mk
 mark : Mk
 changes : Nat
def noMk : Mk := ⟨0, 0, 0⟩
def noHd : Hd := ⟨false, noMk, noMk, 0⟩
abbrev RdS := Option Bys
def getS (n : Nat) : RdS → RdS × Nat
 | none => (none, 0)
 | some b => if n ≤ b.length then (some (b.drop n), leN (b.take n)) else (none, 0)
def rawS (n : Nat) : RdS → RdS × Bys
 | none => (none, [])
 | some b => if n ≤ b.length then (some (b.drop n), b.take n) else (none, [])
def shortS (most : Nat) : RdS → RdS × Bys
 | none => (none, [])
 | some [] => (none, [])
 | some (x :: r) => if x.toNat ≤ most ∧ x.toNat ≤ r.length then (some (r.drop x.toNat), r.take x.toNat) else (none, [])
def valS (s : RdS) : RdS × Bys := if (getS 2 s).2 ≤ 3840 then rawS (getS 2 s).2 (getS 2 s).1 else (none, [])
def valD (s : RdS) : RdS × Bys := rawS (getS 2 s).2 (getS 2 s).1
def oldS (k : Nat) (val : RdS → RdS × Bys) (s : RdS) : RdS × Bys := if k = 1 then (s, []) else val s
def newS (k : Nat) (val : RdS → RdS × Bys) (s : RdS) : RdS × Bys := if k = 2 then (s, []) else val s
def chG (val : RdS → RdS × Bys) (s : RdS) : RdS × Ch :=
 (( newS (getS 1 s).2 val (oldS (getS 1 s).2 val (shortS 24 (getS 1 s).1).1).1).1,
  ⟨(getS 1 s).2, (shortS 24 (getS 1 s).1).2, (oldS (getS 1 s).2 val (shortS 24 (getS 1 s).1).1).2, (newS (getS 1 s).2 val (oldS (getS 1 s).2 val (shortS 24 (getS 1 s).1).1).1).2⟩)
abbrev mayC (c : Ch) (ahead : Bys) (whole : Bool) : Prop := (1 ≤ c.kind ∧ c.kind ≤ 3 ∧ (whole = true → c.kind = 1)) ∧ (c.key ≠ [] ∧ 0 < cmpB c.key ahead) ∧ (c.kind = 3 → c.old ≠ c.new)
def chP (ahead : Bys) (whole : Bool) (b : Bys) : Option (Ch × Bys) := match chG valS (some b) with
 | (some r, c) => if mayC c ahead whole then some (c, r) else none
 | (none, _) => none
theorem valS_eq (s : RdS) : valS s = match valD s with
  | (some r, l) => if l.length ≤ 3840 then (some r, l) else (none, [])
  | (none, _) => (none, []) := by
 unfold valS valD
 generalize getS 2 s = x
 obtain ⟨s1, n⟩ := x
 cases s1 with
 | none => simp [rawS]
 | some b =>
  simp only [rawS]
  by_cases hn : n ≤ b.length
  ·simp only [if_pos hn, List.length_take, Nat.min_eq_left hn]
  simp only [if_neg hn]; split <;> rfl
theorem valD_none : valD none = (none, []) := rfl
theorem valS_none : valS none = (none, []) := rfl
theorem chP_eq (ahead : Bys) (whole : Bool) (b : Bys) : chP ahead whole b = match chG valD (some b) with
  | (some r, c) => if mayC c ahead whole ∧ c.old.length ≤ 3840 ∧ c.new.length ≤ 3840 then some (c, r) else none
  | (none, _) => none := by
 unfold chP chG
 generalize (getS 1 (some b)).2 = k
 generalize (shortS 24 (getS 1 (some b)).1) = q
 obtain ⟨s, key⟩ := q
 simp only
 by_cases h1 : k = 1
 ·subst h1
  simp only [oldS, newS, if_true]
  rw [if_neg (by decide : ¬ (1 : Nat) = 2), valS_eq]
  generalize valD s = y
  obtain ⟨s2, l⟩ := y
  cases s2 with
  | none => rfl
  | some r =>
   simp only
   by_cases hl : l.length ≤ 3840
   ·simp [hl]
   simp [hl]
 simp only [oldS, if_neg h1]
 rw [valS_eq]
 generalize valD s = y
 obtain ⟨s2, l⟩ := y
 cases s2 with
 | none =>
  simp only [newS, valS_none, valD_none]
  by_cases h2 : k = 2 <;> simp [h2]
 | some r =>
  simp only
  by_cases hl : l.length ≤ 3840
  ·simp only [if_pos hl]
   by_cases h2 : k = 2
   ·simp [newS, h2, hl]
   simp only [newS, if_neg h2]
   rw [valS_eq]
   generalize valD (some r) = z
   obtain ⟨s3, l3⟩ := z
   cases s3 with
   | none => rfl
   | some r3 =>
    simp only
    by_cases hl3 : l3.length ≤ 3840
    ·simp [hl3, hl]
    simp [hl3]
  simp only [if_neg hl]
  have : newS k valS none = (none, []) := by simp only [newS, valS_none]; split <;> rfl
  rw [this]
  simp only
  generalize newS k valD (some r) = z
  obtain ⟨s3, l3⟩ := z
  cases s3 <;> simp [hl]
def chsP (whole : Bool) : Nat → Bys → Bys → Option (List Ch × Bys)
 | 0, _, b => some ([], b)
 | n + 1, ahead, b => match chP ahead whole b with
  | some (c, r) => (chsP whole n c.key r).map fun x => (c :: x.1, x.2)
  | none => none
def markP (b : Bys) : Mk := ⟨leN (b.take 4), leN ((b.drop 4).take 4), leN ((b.drop 8).take 4)⟩
abbrev markOk (m : Mk) : Prop := m.items ≤ 2147483647 ∧ m.bytes ≤ 2147483647
abbrev headOk (a : Bys) : Prop := leN (a.take 4) = 827609923 ∧ leN ((a.drop 4).take 1) ≤ 1 ∧ markOk (markP (a.drop 5)) ∧ markOk (markP (a.drop 17)) ∧ (leN ((a.drop 4).take 1) = 1 → markP (a.drop 5) = noMk)
def finP (wh : Bool) (x y : Mk) : Option (List Ch × Bys) → Nat × Hd × List Ch
 | some (l, []) => (0, ⟨wh, x, y, l.length⟩, l)
 | _ => (5, noHd, [])
def readP (b : Bys) : Nat × Hd × List Ch :=
 if 16777216 < b.length then (4, noHd, [])
 else if b.length < 37 then (2, noHd, [])
 else
  let a := b.take (b.length - 4)
  if leN (b.drop (b.length - 4)) ≠ (sumB a).toNat then (6, noHd, [])
  else if headOk a then
   let wh := decide (leN ((a.drop 4).take 1) = 1)
   finP wh (markP (a.drop 5)) (markP (a.drop 17)) (chsP wh (leN ((a.drop 29).take 4)) [] (a.drop 33))
  else (5, noHd, [])
def wrdX (q : Nat) (er : Int) : Assn := ex fun v : Value => lift (∃ a m c, v = .slice a m c) (blk q [v, .int .i64 er] 177)
def wrdE (q : Nat) : Assn := ex fun er : Int => lift (er ≠ 0) (wrdX q er)
def wrdS (q : Nat) : RdS → Assn
 | some b => wrd q b 0
 | none => wrdE q
theorem any_iface : ∃ ms, Tryz.prog.underlying 20 = some (.interface ms) := iface_of (by kernel_rfl)
def pnE (ee : Int) : Ending := .panicked [{ v := .iface 31 (.int .i64 ee), recovered := false }]
section
variable {P : Program} {n : Nat} {ops : Array Oper} {K F : Cont} {E : List (Nat × Cont)} {Pn : List PanicEntry → Cont} {e : Env} {w : World}
def PanK (P : Program) (z : Operand) (xs : Array Operand) (Pn : List PanicEntry → Cont) : Cont := fun e' w' => ∃ (f : FuncId) (c1 c2 : Array Value) (args : List Value) (R : Ending → World → Prop), ev e' z = some (.func (.func f) c1 c2) ∧ Callable P f ∧ evs e' xs.toList = some args ∧ Calls P f (c1.toList ++ args ++ c2.toList).toArray w' R ∧
   (∀ v w'', ¬ R (.returned v) w'') ∧ (∀ ch w'', R (.panicked ch) w'' → Pn ch e' w'') ∧ ∀ w'', ¬ R .outgrown w''
theorem wpOp_panics {a : Act} {z : Operand} {d : Nat} {xs : Array Operand} {ts : Array TypeId} {t : TypeId} {p : String} {af : Array Edge} {i : Nat} (ho : ops[i]? = some ⟨some d, .call ⟨.value z, xs, ts⟩, t, p, af, none⟩) (ha : Agree n e a) (h : PanK P z xs Pn e w) {K' : Act → World → Prop} :
  wpOpIn (Fw none) 0 P ops (outP K E F Pn n) i K' a w := by
 obtain ⟨f, c1, c2, args, R, hz, ⟨fn, hf, hb1, hb2⟩, hargs, hc, hret, hpan, hout⟩ := h
 obtain ⟨hk, hm⟩ := evs_mem hargs
 unfold wpOpIn
 simp only [ho]
 rw [if_pos (by simp [Region.wanted])]
 refine ⟨fun _ _ => trivial, ?_⟩
 have hev : a.eval z = .func (.func f) c1 c2 := ha.ev hz
 have hxs : xs.map a.eval = args.toArray := by
  apply Array.ext'
  simp only [Array.toList_map]
  rw [← hm]
  exact List.map_congr_left fun q hq => ha.ev (hk q hq)
 have hrun : ((execOp a.eval (⟨some d, .call ⟨.value z, xs, ts⟩, t, p, af, none⟩ : Oper))).run P w = .ok (.enter f (c1.toList ++ args ++ c2.toList).toArray) w := by
  have e1 : c1 ++ args.toArray ++ c2 = (c1.toList ++ args ++ c2.toList).toArray := by apply Array.ext'; simp
  simp only [execOp, resolve, hev, Deferred.ofValue, invoke, callFunc, hxs, e1, Sem.run_bind, Sem.run_pure, Result.andThen_ok, program, Sem.run, hf, hb1, hb2]
  simp
 show Oper.uponIn (Fw none) 0 P (⟨some d, .call ⟨.value z, xs, ts⟩, t, p, af, none⟩ : Oper) a _ _ ((execOp a.eval (⟨some d, .call ⟨.value z, xs, ts⟩, t, p, af, none⟩ : Oper)).run P w)
 rw [hrun, Oper.uponIn_enter]
 refine ⟨(fun hd => by cases hd), Calls.fw (Calls.mono hc fun en w'' hR => ?_) _ _⟩
 cases en with
 | returned v => exact absurd hR (hret v w'')
 | panicked ch => exact ⟨e, ha, hpan ch w'' hR⟩
 | outgrown => exact absurd hR (hout w'')
theorem xp_draw2 {id : Nat} {z : Operand} {d : Nat} {xs : Array Operand} {ts : Array TypeId} {t : TypeId} {p : String} {af : Array Edge} (i0 i1 i f : Nat) (hm : P.follows .mixedOrders = true) (hs : ops.size = f + 3)
  (r0 : Region.ready .any ops (Array.replicate ops.size false) = [i0, i1]) (r1 : Region.ready .any ops ((Array.replicate ops.size false).setIfInBounds i0 true) = [i1]) (r2 : Region.ready .any ops ((Array.replicate ops.size false).setIfInBounds i1 true) = [i0])
  (r3 : Region.ready .any ops (((Array.replicate ops.size false).setIfInBounds i0 true).setIfInBounds i1 true) = [i]) (r4 : Region.ready .any ops (((Array.replicate ops.size false).setIfInBounds i1 true).setIfInBounds i0 true) = [i])
  (ho : ops[i]? = some ⟨some d, .call ⟨.value z, xs, ts⟩, t, p, af, none⟩)
  (h1 : XL P n ops false [] [i0, i1] (PanK P z xs Pn) e { w with drawn := w.drawn + 1 }) (h2 : XL P n ops false [] [i1, i0] (PanK P z xs Pn) e { w with drawn := w.drawn + 1 }) : XP P n (.region id ops true) K E F Pn e w := fun a ha => by
 refine wpIn_region_any hm ?_
 rw [hs]
 have hend : ∀ (L : Array Bool) (a' : Act) (w' : World), Region.ready .any ops L = [i] → (∃ e', Agree n e' a' ∧ PanK P z xs Pn e' w') → wpAnyIn (Fw none) 0 P .any ops (outP K E F Pn n) (f + 1) L a' w' := fun L a' w' hr ⟨e', ha', hp⟩ =>
  ⟨fun h0 => (by rw [hr] at h0; cases h0), fun k hk => by
   rw [hr] at hk
   obtain rfl : k = i := by simpa using hk
   exact wpOp_panics ho ha' hp⟩
 have two : ∀ (j k : Nat) (L : Array Bool) (a' : Act) (w' : World), Region.ready .any ops (L.setIfInBounds j true) = [k] → Region.ready .any ops ((L.setIfInBounds j true).setIfInBounds k true) = [i] → SN P ops (fun a' w' => ∃ e', Agree n e' a' ∧ PanK P z xs Pn e' w') [j, k] a' w' →
   wpOpIn (Fw none) 0 P ops (outP K E F Pn n) j (fun a w => wpAnyIn (Fw none) 0 P .any ops (outP K E F Pn n) (f + 2) (L.setIfInBounds j true) a w) a' w' := fun j k L a' w' hr1 hr2 h => by
  simp only [SN] at h
  cases hj : ops[j]? with
  | none => rw [hj] at h; exact h.elim
  | some oj =>
   rw [hj] at h
   refine wpOp_of_SOp hj (fun a2 w2 h2 => ?_) h
   refine ⟨fun h0 => (by rw [hr1] at h0; cases h0), fun k' hk' => ?_⟩
   rw [hr1] at hk'
   obtain rfl : k' = k := by simpa using hk'
   cases hk : ops[k']? with
   | none => rw [hk] at h2; exact h2.elim
   | some ok =>
    rw [hk] at h2
    exact wpOp_of_SOp hk (fun a3 w3 h3 => hend _ a3 w3 hr2 h3) h2
 have g1 := h1 a ha
 have g2 := h2 a ha
 simp only [cond] at g1 g2
 refine ⟨fun h0 => ?_, fun k hk => ?_⟩
 ·rw [← hs, r0] at h0; cases h0
 rw [← hs, r0] at hk
 rw [← hs]
 simp only [List.mem_cons, List.not_mem_nil, or_false] at hk
 rcases hk with rfl | rfl
 ·exact two _ _ _ a _ r1 r3 g1
 exact two _ _ _ a _ r2 r4 g2
end
section
variable {G : Gh} {L R : List Assn} {w : World} {q : Nat} {b b' : Bys} {er : Int}
theorem Sat.swap1 {A B : Assn} (h : Sat G (A :: B :: L) w) : Sat G (A :: L) w := (h.pick (.there .here)).tail
theorem Sat.swap2 {A B C : Assn} (h : Sat G (A :: B :: C :: L) w) : Sat G (A :: B :: L) w := (h.pick (.there (.there .here))).tail
theorem wrdE_in (h : er ≠ 0) (hw : Sat G (wrdX q er :: L) w) : Sat G (wrdE q :: L) w := Sat.ex_in er (Sat.lift_in h hw)
theorem wrdE_out (hw : Sat G (wrdE q :: L) w) : ∃ er, er ≠ 0 ∧ Sat G (wrdX q er :: L) w := by
 obtain ⟨er, h⟩ := hw.ex_out
 obtain ⟨h1, h⟩ := h.lift_out
 exact ⟨er, h1, h⟩
theorem must_no {e : Int} (hw : Sat G L w) : Calls Tryz.prog 160 #[.bool false, .int .i64 e] w (fun en w' => en = pnE e ∧ Sat G L w') := by
 refine calls_of_xp (args := [_, _]) Tryz.func160 rfl Tryz.ntmps160 rfl rfl ?_
 refine xp_seq (xp_of (x_region rfl ?_))
 refine x_mv rfl rfl trivial rfl ?_
 refine x_not rfl rfl trivial rfl ?_
 refine xl_nil ?_
 refine xp_if (p := True) rfl (fun _ => ?_) (fun h => absurd trivial h)
 refine xp_panic [0, 1] 2 rfl rfl ?_
 refine x_mv rfl rfl trivial rfl ?_
 refine x_mki rfl rfl trivial U_api_Errno (by simp) rfl ?_
 refine xl_nil ⟨_, _, rfl, endPn_plain rfl ⟨rfl, hw⟩⟩
theorem take_no {n : Nat} (hw : Sat G (wrd q b er :: L) w) (hn : b.length < n) : Calls Tryz.prog 92 #[.pointer (some ⟨q, 0, none⟩), .int .i64 n] w (fun en w' => en = pnE 2 ∧ Sat G (wrd q b er :: L) w') := by
 obtain ⟨v, v0, b0, kv, hp, hw⟩ := wrd_open hw
 obtain ⟨a, cap, rfl⟩ := (((kv L).of sF).at hw).form
 refine calls_of_xp (args := [_, _]) Tryz.func92 rfl Tryz.ntmps92 rfl rfl ?_
 refine xp_seq (xp_of (x_region rfl ?_))
 refine x_as rfl rfl trivial rfl ?_
 refine xl_nil ?_
 refine xp_seq (xp_of (x_region rfl ?_))
 refine x_mv rfl rfl trivial rfl ?_
 refine x_ge rfl rfl trivial rfl rfl ?_
 refine x_call rfl rfl trivial cal_wire_must rfl (ct_wire_must (by omega) hw) rfl (fun w v8 hv => ?_)
 obtain ⟨rfl, hw⟩ := hv
 refine xl_nil ?_
 refine xp_seq ?_
 refine xp_call [0, 1, 2, 3, 4, 5, 6] 7 [] rfl rfl rfl ?_
 refine x_mv rfl rfl trivial rfl ?_
 refine x_mv rfl rfl trivial rfl ?_
 refine x_nc rfl rfl trivial rfl ?_
 refine x_fld rfl rfl trivial fo_wire_Reader_0 rfl ?_
 refine x_ld rfl rfl trivial rfl (Loads.blk1 (v := .slice a b.length cap) one_sl_uint8 hw pK rfl) ?_
 refine x_len rfl rfl trivial (by kernel_rfl) U_sl_uint8 rfl ?_
 refine x_le rfl rfl trivial rfl rfl ?_
 rw [decide_eq_false (show ¬ ((n : Nat) : Int) ≤ ((b.length : Nat) : Int) by omega)]
 refine xl_nil ⟨160, #[], #[], [.bool false, .int .i64 2], _, rfl, cal_wire_must, rfl, must_no (e := 2) hw, ?_, ?_, ?_⟩
 ·rintro v w ⟨h, -⟩; cases h
 rotate_left
 ·rintro w ⟨h, -⟩; cases h
 rintro ch w ⟨h, hw⟩
 cases h
 exact endPn_plain rfl ⟨rfl, wrd_shut kv hp hw⟩
theorem dt_wire_read_uint8_1 {p0 p1 p2 : Value} (hw : Sat G L w) : Defd Tryz.prog 162 #[p0, p1, p2] w (fun r w' => Sat G L w') := by
 obtain ⟨ms, hI⟩ := any_iface
 refine recD_of_x (u := .returning) (args := [_, _, _]) Tryz.func162 rfl Tryz.ntmps162 rfl rfl rfl rfl ?_
 refine x_seq (x_region rfl ?_)
 refine x_mv rfl rfl trivial rfl ?_
 refine x_ta0 rfl rfl trivial U_api_Errno zv_api_Errno rfl ?_
 refine x_mv rfl rfl trivial rfl ?_
 refine x_ext rfl rfl trivial rfl rfl ?_
 refine x_ext rfl rfl trivial rfl rfl ?_
 refine x_as rfl rfl trivial rfl ?_
 refine x_as rfl rfl trivial rfl ?_
 refine xl_nil ?_
 refine x_seq (x_region rfl ?_)
 refine x_mv rfl rfl trivial rfl ?_
 refine xl_nil ?_
 refine x_cond_false rfl ?_
 refine x_seq (x_region rfl ?_)
 refine x_mv rfl rfl trivial rfl ?_
 refine x_neI0 rfl rfl trivial hI rfl ?_
 refine xl_nil ?_
 refine x_cond_false rfl (x_skip ?_)
 exact endD0 rfl rfl hw
theorem dp_wire_read_uint8_1 {va vb x0 : Value} {b2 b4 b5 : Nat} {ee : Int} (hva : va.oneCell' = true) (hw : Sat G (blk b5 [va] 22 :: blk b4 [x0] 5 :: blk b2 [.pointer (some ⟨q, 0, none⟩)] 107 :: blk q [vb, .int .i64 0] 177 :: L) w) :
  CallsDIn (Fw none) 0 Tryz.prog 162 #[.pointer (some ⟨b5, 0, none⟩), .pointer (some ⟨b4, 0, none⟩), .pointer (some ⟨b2, 0, none⟩)] (.panicking [{ v := .iface 31 (.int .i64 ee), recovered := false }]) w fun en u' w' =>
   u' = .panicking [{ v := .iface 31 (.int .i64 ee), recovered := true }] ∧ Ret (fun r w' => Sat G (blk b5 [va] 22 :: blk b4 [.int .u8 0] 5 :: blk b2 [.pointer (some ⟨q, 0, none⟩)] 107 :: blk q [va, .int .i64 ee] 177 :: L) w') en w' := by
 refine recD_of_x (u := .panicking [{ v := .iface 31 (.int .i64 ee), recovered := false }]) (args := [_, _, _]) Tryz.func162 rfl Tryz.ntmps162 rfl rfl rfl rfl ?_
 refine x_seq (x_region rfl ?_)
 refine x_mv rfl rfl trivial rfl ?_
 refine x_ta1 rfl rfl trivial U_api_Errno (by simp) rfl ?_
 refine x_mv rfl rfl trivial rfl ?_
 refine x_ext rfl rfl trivial rfl rfl ?_
 refine x_ext rfl rfl trivial rfl rfl ?_
 refine x_as rfl rfl trivial rfl ?_
 refine x_as rfl rfl trivial rfl ?_
 refine xl_nil ?_
 refine x_seq (x_region rfl ?_)
 refine x_mv rfl rfl trivial rfl ?_
 refine xl_nil ?_
 refine x_cond_true rfl ?_
 refine x_seq (x_region rfl ?_)
 refine x_as rfl rfl trivial rfl ?_
 refine xl_nil ?_
 refine x_region rfl ?_
 refine x_ld rfl rfl trivial rfl (Loads.blk1 (v := .pointer (some ⟨q, 0, none⟩)) one_p_wire_Reader hw pK rfl) ?_
 refine x_ld rfl rfl trivial rfl (Loads.blk1 (v := .pointer (some ⟨q, 0, none⟩)) one_p_wire_Reader hw pK rfl) ?_
 refine x_mv rfl rfl trivial rfl ?_
 refine x_ld rfl rfl trivial rfl (Loads.blk1 (v := va) one_sl_uint8 hw pK rfl) ?_
 refine x_mv rfl rfl trivial rfl ?_
 refine x_st1 (l' := [.int .u8 0]) rfl trivial rfl rfl one_uint8 rfl hw pK rfl rfl rfl (fun w hw => ?_)
 refine x_nc rfl rfl trivial rfl ?_
 refine x_fld rfl rfl trivial fo_wire_Reader_0 rfl ?_
 refine x_st1 (l' := [va, .int .i64 0]) rfl trivial rfl rfl one_sl_uint8 hva hw pK rfl rfl rfl (fun w hw => ?_)
 refine x_nc rfl rfl trivial rfl ?_
 refine x_fld rfl rfl trivial fo_wire_Reader_1 rfl ?_
 refine x_st1 (l' := [va, .int .i64 ee]) rfl trivial rfl rfl one_api_Errno rfl hw pK rfl rfl rfl (fun w hw => ?_)
 refine xl_nil ?_
 exact endD0 rfl rfl (hw.bring (As := [blk b5 _ _, blk b4 _ _, blk b2 _ _, blk q _ _]) bR)
theorem ct_wire_read_uint8 {C : Assn} {D : Value → Assn} {f : FuncId} {caps : List Value} {out : RdS} (hw : Sat G (wrd q b 0 :: C :: L) w) (hf : Callable Tryz.prog f)
  (hdo : ∀ (M : List Assn) (w : World), Sat G (wrd q b 0 :: C :: M) w → Calls Tryz.prog f caps.toArray w (fun en w' => (∃ b' rv, out = some b' ∧ en = .returned rv ∧ rv.oneCell' = true ∧ Sat G (D rv :: wrd q b' 0 :: C :: M) w') ∨ (out = none ∧ ∃ ee b1, ee ≠ 0 ∧ en = pnE ee ∧ Sat G (wrd q b1 0 :: C :: M) w'))) :
  Calls Tryz.prog 95 #[.pointer (some ⟨q, 0, none⟩), .func (.func f) #[] caps.toArray] w (Ret fun r w' => (∃ b', out = some b' ∧ Sat G (D r :: wrd q b' 0 :: C :: L) w') ∨ (out = none ∧ r = .int .u8 0 ∧ Sat G (wrdE q :: C :: L) w')) := by
 obtain ⟨v, v0, b0, kv, hp, hw⟩ := wrd_open hw
 obtain ⟨a, cap, rfl⟩ := (((kv (C :: L)).of sF).at hw).form
 refine calls_of_xp (args := [_, _]) Tryz.func95 rfl Tryz.ntmps95 rfl rfl ?_
 refine xp_seq ?_
 refine xp_of (x_region rfl ?_)
 refine x_box rfl rfl trivial rfl rfl hw rfl (fun w b2 hw => ?_)
 refine x_alloc rfl rfl trivial z_uint8 hw rfl (fun w b4 hw => ?_)
 refine xl_nil ?_
 refine xp_seq ?_
 refine xp_seq ?_
 refine xp_of (x_region rfl ?_)
 refine x_ld rfl rfl trivial rfl (Loads.blk1 (v := .pointer (some ⟨q, 0, none⟩)) one_p_wire_Reader hw pK rfl) ?_
 refine x_nc rfl rfl trivial rfl ?_
 refine x_fld rfl rfl trivial fo_wire_Reader_1 rfl ?_
 refine x_ld rfl rfl trivial rfl (Loads.blk1 (v := .int .i64 0) one_api_Errno hw pK rfl) ?_
 refine x_ne rfl rfl trivial (by kernel_rfl) rfl rfl ?_
 refine xl_nil ?_
 refine xp_if rfl (fun h1 => ?_) (fun h1 => ?_)
 ·
  exact absurd rfl h1
 refine xp_of (x_skip ?_)
 refine xp_seq ?_
 refine xp_of (x_region rfl ?_)
 refine x_ld rfl rfl trivial rfl (Loads.blk1 (v := .pointer (some ⟨q, 0, none⟩)) one_p_wire_Reader hw pK rfl) ?_
 refine x_nc rfl rfl trivial rfl ?_
 refine x_fld rfl rfl trivial fo_wire_Reader_0 rfl ?_
 refine x_ld rfl rfl trivial rfl (Loads.blk1 (v := .slice a b.length cap) one_sl_uint8 hw pK rfl) ?_
 refine x_alloc rfl rfl trivial z_sl_uint8 hw rfl (fun w b5 hw => ?_)
 refine x_st1 (l' := [.slice a b.length cap]) rfl trivial rfl rfl one_sl_uint8 rfl hw pK rfl rfl rfl (fun w hw => ?_)
 refine xl_nil ?_
 refine xp_seq ?_
 refine xp_of (x_defer (fs := 0) (fn := .func 162) (first := #[]) (captured := #[.pointer (some ⟨b5, 0, none⟩), .pointer (some ⟨b4, 0, none⟩), .pointer (some ⟨b2, 0, none⟩)]) (hm := rfl) rfl ?_)
 refine x_mkf (v1 := #[]) (v2 := #[.pointer (some ⟨b5, 0, none⟩), .pointer (some ⟨b4, 0, none⟩), .pointer (some ⟨b2, 0, none⟩)]) rfl rfl trivial (by intro z hz; simp at hz; rcases hz with rfl | rfl | rfl <;> exact ⟨_, rfl⟩) (by simp) (by simp only [List.map_toArray, List.map_cons, List.map_nil]; rfl) ?_
 refine xl_nil ?_
 refine ⟨rfl, ?_⟩
 refine xp_seq ?_
 have hw := wrd_shut kv hp (hw.bring (As := [blk q _ _, row 5 1 v0 _ _]) bR)
 have hw := hw.bring (As := [wrd q b 0, C]) bR
 have hcap : ((#[] : Array Value).toList ++ ([] : List Value) ++ caps.toArray.toList).toArray = caps.toArray := by simp
 refine xp_call [0] 1 [2] rfl rfl rfl ?_
 refine x_mv rfl rfl trivial rfl ?_
 refine xl_nil ⟨f, #[], caps.toArray, [], _, rfl, hf, rfl, (by rw [hcap]; exact hdo _ w hw), ?_, ?_, ?_⟩
 rotate_left
 ·rintro ch w (⟨b1', rv, -, h, -, -⟩ | ⟨hz, ee, b1', hee, h, hw⟩)
  ·cases h
  cases h
  obtain ⟨v1, v2, b1, -, -, hw⟩ := wrd_open hw
  refine leave_rec (R := _) rfl cal_wire_read_uint8_1 (dp_wire_read_uint8_1 rfl (hw.bring (As := [blk b5 _ _, blk b4 _ _, blk b2 _ _, blk q _ _]) bR)) (fun x w hv => ?_)
  refine leave1 rfl ⟨_, rfl, (Loads.blk1 (v := .int .u8 0) one_uint8 hv pK rfl)⟩ (.inr ⟨hz, rfl, wrdE_in hee ?_⟩)
  have hz2 := (hv.bring (As := [blk b5 _ _, blk b4 _ _, blk b2 _ _, row 5 1 v2 _ _]) bR).tail.tail.tail.tail
  exact Sat.ex_in (.slice a b.length cap) (Sat.lift_in ⟨_, _, _, rfl⟩ hz2)
 ·rintro w (⟨b1', rv, -, h, -, -⟩ | ⟨-, ee, b1', -, h, -⟩) <;> cases h
 rintro v18 w (⟨b1', rv, hz, h, hone, hw⟩ | ⟨-, ee, b1', -, h, -⟩)
 rotate_left
 ·cases h
 injection h with h
 subst h
 refine x_st1 (l' := [v18]) rfl trivial rfl rfl one_uint8 hone hw pK rfl rfl rfl (fun w hw => ?_)
 refine xl_nil ?_
 refine xp_of (x_ret ?_)
 refine endE_of (bodyEnd_leave rfl ?_) (fun _ _ h => h)
 refine leave_call cal_wire_read_uint8_1 (dt_wire_read_uint8_1 hw) (fun v w hv => ?_)
 exact leave1 rfl ⟨_, rfl, (Loads.blk1 (v := v18) one_uint8 hv pK rfl)⟩ (.inl ⟨b1', hz, (hv.bring (As := [blk b4 _ _, blk b5 _ _, blk b2 _ _]) bR).tail.tail.tail⟩)
theorem ct_wire_readX_uint8 {fv : Value} (hw : Sat G (wrdE q :: L) w) : Calls Tryz.prog 95 #[.pointer (some ⟨q, 0, none⟩), fv] w (Ret fun r w' => r = .int .u8 0 ∧ Sat G (wrdE q :: L) w') := by
 obtain ⟨er, her, hw⟩ := wrdE_out hw
 obtain ⟨v, h⟩ := hw.ex_out
 obtain ⟨⟨a, m, c, rfl⟩, hw⟩ := h.lift_out
 refine calls_of_x (args := [_, _]) Tryz.func95 rfl Tryz.ntmps95 rfl rfl ?_
 refine x_seq ?_
 refine x_region rfl ?_
 refine x_box rfl rfl trivial rfl rfl hw rfl (fun w b2 hw => ?_)
 refine x_alloc rfl rfl trivial z_uint8 hw rfl (fun w b4 hw => ?_)
 refine xl_nil ?_
 refine x_seq ?_
 refine x_seq ?_
 refine x_region rfl ?_
 refine x_ld rfl rfl trivial rfl (Loads.blk1 (v := .pointer (some ⟨q, 0, none⟩)) one_p_wire_Reader hw pK rfl) ?_
 refine x_nc rfl rfl trivial rfl ?_
 refine x_fld rfl rfl trivial fo_wire_Reader_1 rfl ?_
 refine x_ld rfl rfl trivial rfl (Loads.blk1 (v := .int .i64 er) one_api_Errno hw pK rfl) ?_
 refine x_ne rfl rfl trivial (by kernel_rfl) rfl rfl ?_
 refine xl_nil ?_
 refine x_if rfl (fun h1 => ?_) (fun h1 => ?_)
 ·
  refine x_seq ?_
  refine x_region rfl ?_
  refine x_ld rfl rfl trivial rfl (Loads.blk1 (v := .int .u8 0) one_uint8 hw pK rfl) ?_
  refine x_st1 (l' := [.int .u8 0]) rfl trivial rfl rfl one_uint8 rfl hw pK rfl rfl rfl (fun w hw => ?_)
  refine xl_nil ?_
  refine x_ret ?_
  exact end1 rfl rfl ⟨_, rfl, (Loads.blk1 one_uint8 hw pK rfl)⟩ ⟨rfl, wrdE_in her (Sat.ex_in (.slice a m c) (Sat.lift_in ⟨_, _, _, rfl⟩ (hw.bring (As := [blk b4 _ _, blk b2 _ _]) bR).tail.tail))⟩
 exact absurd her h1
theorem dt_wire_read_uint16_1 {p0 p1 p2 : Value} (hw : Sat G L w) : Defd Tryz.prog 317 #[p0, p1, p2] w (fun r w' => Sat G L w') := by
 obtain ⟨ms, hI⟩ := any_iface
 refine recD_of_x (u := .returning) (args := [_, _, _]) Tryz.func317 rfl Tryz.ntmps317 rfl rfl rfl rfl ?_
 refine x_seq (x_region rfl ?_)
 refine x_mv rfl rfl trivial rfl ?_
 refine x_ta0 rfl rfl trivial U_api_Errno zv_api_Errno rfl ?_
 refine x_mv rfl rfl trivial rfl ?_
 refine x_ext rfl rfl trivial rfl rfl ?_
 refine x_ext rfl rfl trivial rfl rfl ?_
 refine x_as rfl rfl trivial rfl ?_
 refine x_as rfl rfl trivial rfl ?_
 refine xl_nil ?_
 refine x_seq (x_region rfl ?_)
 refine x_mv rfl rfl trivial rfl ?_
 refine xl_nil ?_
 refine x_cond_false rfl ?_
 refine x_seq (x_region rfl ?_)
 refine x_mv rfl rfl trivial rfl ?_
 refine x_neI0 rfl rfl trivial hI rfl ?_
 refine xl_nil ?_
 refine x_cond_false rfl (x_skip ?_)
 exact endD0 rfl rfl hw
theorem dp_wire_read_uint16_1 {va vb x0 : Value} {b2 b4 b5 : Nat} {ee : Int} (hva : va.oneCell' = true) (hw : Sat G (blk b5 [va] 22 :: blk b4 [x0] 232 :: blk b2 [.pointer (some ⟨q, 0, none⟩)] 107 :: blk q [vb, .int .i64 0] 177 :: L) w) :
  CallsDIn (Fw none) 0 Tryz.prog 317 #[.pointer (some ⟨b5, 0, none⟩), .pointer (some ⟨b4, 0, none⟩), .pointer (some ⟨b2, 0, none⟩)] (.panicking [{ v := .iface 31 (.int .i64 ee), recovered := false }]) w fun en u' w' =>
   u' = .panicking [{ v := .iface 31 (.int .i64 ee), recovered := true }] ∧ Ret (fun r w' => Sat G (blk b5 [va] 22 :: blk b4 [.int .u16 0] 232 :: blk b2 [.pointer (some ⟨q, 0, none⟩)] 107 :: blk q [va, .int .i64 ee] 177 :: L) w') en w' := by
 refine recD_of_x (u := .panicking [{ v := .iface 31 (.int .i64 ee), recovered := false }]) (args := [_, _, _]) Tryz.func317 rfl Tryz.ntmps317 rfl rfl rfl rfl ?_
 refine x_seq (x_region rfl ?_)
 refine x_mv rfl rfl trivial rfl ?_
 refine x_ta1 rfl rfl trivial U_api_Errno (by simp) rfl ?_
 refine x_mv rfl rfl trivial rfl ?_
 refine x_ext rfl rfl trivial rfl rfl ?_
 refine x_ext rfl rfl trivial rfl rfl ?_
 refine x_as rfl rfl trivial rfl ?_
 refine x_as rfl rfl trivial rfl ?_
 refine xl_nil ?_
 refine x_seq (x_region rfl ?_)
 refine x_mv rfl rfl trivial rfl ?_
 refine xl_nil ?_
 refine x_cond_true rfl ?_
 refine x_seq (x_region rfl ?_)
 refine x_as rfl rfl trivial rfl ?_
 refine xl_nil ?_
 refine x_region rfl ?_
 refine x_ld rfl rfl trivial rfl (Loads.blk1 (v := .pointer (some ⟨q, 0, none⟩)) one_p_wire_Reader hw pK rfl) ?_
 refine x_ld rfl rfl trivial rfl (Loads.blk1 (v := .pointer (some ⟨q, 0, none⟩)) one_p_wire_Reader hw pK rfl) ?_
 refine x_mv rfl rfl trivial rfl ?_
 refine x_ld rfl rfl trivial rfl (Loads.blk1 (v := va) one_sl_uint8 hw pK rfl) ?_
 refine x_mv rfl rfl trivial rfl ?_
 refine x_st1 (l' := [.int .u16 0]) rfl trivial rfl rfl one_uint16 rfl hw pK rfl rfl rfl (fun w hw => ?_)
 refine x_nc rfl rfl trivial rfl ?_
 refine x_fld rfl rfl trivial fo_wire_Reader_0 rfl ?_
 refine x_st1 (l' := [va, .int .i64 0]) rfl trivial rfl rfl one_sl_uint8 hva hw pK rfl rfl rfl (fun w hw => ?_)
 refine x_nc rfl rfl trivial rfl ?_
 refine x_fld rfl rfl trivial fo_wire_Reader_1 rfl ?_
 refine x_st1 (l' := [va, .int .i64 ee]) rfl trivial rfl rfl one_api_Errno rfl hw pK rfl rfl rfl (fun w hw => ?_)
 refine xl_nil ?_
 exact endD0 rfl rfl (hw.bring (As := [blk b5 _ _, blk b4 _ _, blk b2 _ _, blk q _ _]) bR)
theorem ct_wire_read_uint16 {C : Assn} {D : Value → Assn} {f : FuncId} {caps : List Value} {out : RdS} (hw : Sat G (wrd q b 0 :: C :: L) w) (hf : Callable Tryz.prog f)
  (hdo : ∀ (M : List Assn) (w : World), Sat G (wrd q b 0 :: C :: M) w → Calls Tryz.prog f caps.toArray w (fun en w' => (∃ b' rv, out = some b' ∧ en = .returned rv ∧ rv.oneCell' = true ∧ Sat G (D rv :: wrd q b' 0 :: C :: M) w') ∨ (out = none ∧ ∃ ee b1, ee ≠ 0 ∧ en = pnE ee ∧ Sat G (wrd q b1 0 :: C :: M) w'))) :
  Calls Tryz.prog 236 #[.pointer (some ⟨q, 0, none⟩), .func (.func f) #[] caps.toArray] w (Ret fun r w' => (∃ b', out = some b' ∧ Sat G (D r :: wrd q b' 0 :: C :: L) w') ∨ (out = none ∧ r = .int .u16 0 ∧ Sat G (wrdE q :: C :: L) w')) := by
 obtain ⟨v, v0, b0, kv, hp, hw⟩ := wrd_open hw
 obtain ⟨a, cap, rfl⟩ := (((kv (C :: L)).of sF).at hw).form
 refine calls_of_xp (args := [_, _]) Tryz.func236 rfl Tryz.ntmps236 rfl rfl ?_
 refine xp_seq ?_
 refine xp_of (x_region rfl ?_)
 refine x_box rfl rfl trivial rfl rfl hw rfl (fun w b2 hw => ?_)
 refine x_alloc rfl rfl trivial z_uint16 hw rfl (fun w b4 hw => ?_)
 refine xl_nil ?_
 refine xp_seq ?_
 refine xp_seq ?_
 refine xp_of (x_region rfl ?_)
 refine x_ld rfl rfl trivial rfl (Loads.blk1 (v := .pointer (some ⟨q, 0, none⟩)) one_p_wire_Reader hw pK rfl) ?_
 refine x_nc rfl rfl trivial rfl ?_
 refine x_fld rfl rfl trivial fo_wire_Reader_1 rfl ?_
 refine x_ld rfl rfl trivial rfl (Loads.blk1 (v := .int .i64 0) one_api_Errno hw pK rfl) ?_
 refine x_ne rfl rfl trivial (by kernel_rfl) rfl rfl ?_
 refine xl_nil ?_
 refine xp_if rfl (fun h1 => ?_) (fun h1 => ?_)
 ·
  exact absurd rfl h1
 refine xp_of (x_skip ?_)
 refine xp_seq ?_
 refine xp_of (x_region rfl ?_)
 refine x_ld rfl rfl trivial rfl (Loads.blk1 (v := .pointer (some ⟨q, 0, none⟩)) one_p_wire_Reader hw pK rfl) ?_
 refine x_nc rfl rfl trivial rfl ?_
 refine x_fld rfl rfl trivial fo_wire_Reader_0 rfl ?_
 refine x_ld rfl rfl trivial rfl (Loads.blk1 (v := .slice a b.length cap) one_sl_uint8 hw pK rfl) ?_
 refine x_alloc rfl rfl trivial z_sl_uint8 hw rfl (fun w b5 hw => ?_)
 refine x_st1 (l' := [.slice a b.length cap]) rfl trivial rfl rfl one_sl_uint8 rfl hw pK rfl rfl rfl (fun w hw => ?_)
 refine xl_nil ?_
 refine xp_seq ?_
 refine xp_of (x_defer (fs := 0) (fn := .func 317) (first := #[]) (captured := #[.pointer (some ⟨b5, 0, none⟩), .pointer (some ⟨b4, 0, none⟩), .pointer (some ⟨b2, 0, none⟩)]) (hm := rfl) rfl ?_)
 refine x_mkf (v1 := #[]) (v2 := #[.pointer (some ⟨b5, 0, none⟩), .pointer (some ⟨b4, 0, none⟩), .pointer (some ⟨b2, 0, none⟩)]) rfl rfl trivial (by intro z hz; simp at hz; rcases hz with rfl | rfl | rfl <;> exact ⟨_, rfl⟩) (by simp) (by simp only [List.map_toArray, List.map_cons, List.map_nil]; rfl) ?_
 refine xl_nil ?_
 refine ⟨rfl, ?_⟩
 refine xp_seq ?_
 have hw := wrd_shut kv hp (hw.bring (As := [blk q _ _, row 5 1 v0 _ _]) bR)
 have hw := hw.bring (As := [wrd q b 0, C]) bR
 have hcap : ((#[] : Array Value).toList ++ ([] : List Value) ++ caps.toArray.toList).toArray = caps.toArray := by simp
 refine xp_call [0] 1 [2] rfl rfl rfl ?_
 refine x_mv rfl rfl trivial rfl ?_
 refine xl_nil ⟨f, #[], caps.toArray, [], _, rfl, hf, rfl, (by rw [hcap]; exact hdo _ w hw), ?_, ?_, ?_⟩
 rotate_left
 ·rintro ch w (⟨b1', rv, -, h, -, -⟩ | ⟨hz, ee, b1', hee, h, hw⟩)
  ·cases h
  cases h
  obtain ⟨v1, v2, b1, -, -, hw⟩ := wrd_open hw
  refine leave_rec (R := _) rfl cal_wire_read_uint16_1 (dp_wire_read_uint16_1 rfl (hw.bring (As := [blk b5 _ _, blk b4 _ _, blk b2 _ _, blk q _ _]) bR)) (fun x w hv => ?_)
  refine leave1 rfl ⟨_, rfl, (Loads.blk1 (v := .int .u16 0) one_uint16 hv pK rfl)⟩ (.inr ⟨hz, rfl, wrdE_in hee ?_⟩)
  have hz2 := (hv.bring (As := [blk b5 _ _, blk b4 _ _, blk b2 _ _, row 5 1 v2 _ _]) bR).tail.tail.tail.tail
  exact Sat.ex_in (.slice a b.length cap) (Sat.lift_in ⟨_, _, _, rfl⟩ hz2)
 ·rintro w (⟨b1', rv, -, h, -, -⟩ | ⟨-, ee, b1', -, h, -⟩) <;> cases h
 rintro v18 w (⟨b1', rv, hz, h, hone, hw⟩ | ⟨-, ee, b1', -, h, -⟩)
 rotate_left
 ·cases h
 injection h with h
 subst h
 refine x_st1 (l' := [v18]) rfl trivial rfl rfl one_uint16 hone hw pK rfl rfl rfl (fun w hw => ?_)
 refine xl_nil ?_
 refine xp_of (x_ret ?_)
 refine endE_of (bodyEnd_leave rfl ?_) (fun _ _ h => h)
 refine leave_call cal_wire_read_uint16_1 (dt_wire_read_uint16_1 hw) (fun v w hv => ?_)
 exact leave1 rfl ⟨_, rfl, (Loads.blk1 (v := v18) one_uint16 hv pK rfl)⟩ (.inl ⟨b1', hz, (hv.bring (As := [blk b4 _ _, blk b5 _ _, blk b2 _ _]) bR).tail.tail.tail⟩)
theorem ct_wire_readX_uint16 {fv : Value} (hw : Sat G (wrdE q :: L) w) : Calls Tryz.prog 236 #[.pointer (some ⟨q, 0, none⟩), fv] w (Ret fun r w' => r = .int .u16 0 ∧ Sat G (wrdE q :: L) w') := by
 obtain ⟨er, her, hw⟩ := wrdE_out hw
 obtain ⟨v, h⟩ := hw.ex_out
 obtain ⟨⟨a, m, c, rfl⟩, hw⟩ := h.lift_out
 refine calls_of_x (args := [_, _]) Tryz.func236 rfl Tryz.ntmps236 rfl rfl ?_
 refine x_seq ?_
 refine x_region rfl ?_
 refine x_box rfl rfl trivial rfl rfl hw rfl (fun w b2 hw => ?_)
 refine x_alloc rfl rfl trivial z_uint16 hw rfl (fun w b4 hw => ?_)
 refine xl_nil ?_
 refine x_seq ?_
 refine x_seq ?_
 refine x_region rfl ?_
 refine x_ld rfl rfl trivial rfl (Loads.blk1 (v := .pointer (some ⟨q, 0, none⟩)) one_p_wire_Reader hw pK rfl) ?_
 refine x_nc rfl rfl trivial rfl ?_
 refine x_fld rfl rfl trivial fo_wire_Reader_1 rfl ?_
 refine x_ld rfl rfl trivial rfl (Loads.blk1 (v := .int .i64 er) one_api_Errno hw pK rfl) ?_
 refine x_ne rfl rfl trivial (by kernel_rfl) rfl rfl ?_
 refine xl_nil ?_
 refine x_if rfl (fun h1 => ?_) (fun h1 => ?_)
 ·
  refine x_seq ?_
  refine x_region rfl ?_
  refine x_ld rfl rfl trivial rfl (Loads.blk1 (v := .int .u16 0) one_uint16 hw pK rfl) ?_
  refine x_st1 (l' := [.int .u16 0]) rfl trivial rfl rfl one_uint16 rfl hw pK rfl rfl rfl (fun w hw => ?_)
  refine xl_nil ?_
  refine x_ret ?_
  exact end1 rfl rfl ⟨_, rfl, (Loads.blk1 one_uint16 hw pK rfl)⟩ ⟨rfl, wrdE_in her (Sat.ex_in (.slice a m c) (Sat.lift_in ⟨_, _, _, rfl⟩ (hw.bring (As := [blk b4 _ _, blk b2 _ _]) bR).tail.tail))⟩
 exact absurd her h1
theorem dt_wire_read_uint32_1 {p0 p1 p2 : Value} (hw : Sat G L w) : Defd Tryz.prog 159 #[p0, p1, p2] w (fun r w' => Sat G L w') := by
 obtain ⟨ms, hI⟩ := any_iface
 refine recD_of_x (u := .returning) (args := [_, _, _]) Tryz.func159 rfl Tryz.ntmps159 rfl rfl rfl rfl ?_
 refine x_seq (x_region rfl ?_)
 refine x_mv rfl rfl trivial rfl ?_
 refine x_ta0 rfl rfl trivial U_api_Errno zv_api_Errno rfl ?_
 refine x_mv rfl rfl trivial rfl ?_
 refine x_ext rfl rfl trivial rfl rfl ?_
 refine x_ext rfl rfl trivial rfl rfl ?_
 refine x_as rfl rfl trivial rfl ?_
 refine x_as rfl rfl trivial rfl ?_
 refine xl_nil ?_
 refine x_seq (x_region rfl ?_)
 refine x_mv rfl rfl trivial rfl ?_
 refine xl_nil ?_
 refine x_cond_false rfl ?_
 refine x_seq (x_region rfl ?_)
 refine x_mv rfl rfl trivial rfl ?_
 refine x_neI0 rfl rfl trivial hI rfl ?_
 refine xl_nil ?_
 refine x_cond_false rfl (x_skip ?_)
 exact endD0 rfl rfl hw
theorem dp_wire_read_uint32_1 {va vb x0 : Value} {b2 b4 b5 : Nat} {ee : Int} (hva : va.oneCell' = true) (hw : Sat G (blk b5 [va] 22 :: blk b4 [x0] 26 :: blk b2 [.pointer (some ⟨q, 0, none⟩)] 107 :: blk q [vb, .int .i64 0] 177 :: L) w) :
  CallsDIn (Fw none) 0 Tryz.prog 159 #[.pointer (some ⟨b5, 0, none⟩), .pointer (some ⟨b4, 0, none⟩), .pointer (some ⟨b2, 0, none⟩)] (.panicking [{ v := .iface 31 (.int .i64 ee), recovered := false }]) w fun en u' w' =>
   u' = .panicking [{ v := .iface 31 (.int .i64 ee), recovered := true }] ∧ Ret (fun r w' => Sat G (blk b5 [va] 22 :: blk b4 [.int .u32 0] 26 :: blk b2 [.pointer (some ⟨q, 0, none⟩)] 107 :: blk q [va, .int .i64 ee] 177 :: L) w') en w' := by
 refine recD_of_x (u := .panicking [{ v := .iface 31 (.int .i64 ee), recovered := false }]) (args := [_, _, _]) Tryz.func159 rfl Tryz.ntmps159 rfl rfl rfl rfl ?_
 refine x_seq (x_region rfl ?_)
 refine x_mv rfl rfl trivial rfl ?_
 refine x_ta1 rfl rfl trivial U_api_Errno (by simp) rfl ?_
 refine x_mv rfl rfl trivial rfl ?_
 refine x_ext rfl rfl trivial rfl rfl ?_
 refine x_ext rfl rfl trivial rfl rfl ?_
 refine x_as rfl rfl trivial rfl ?_
 refine x_as rfl rfl trivial rfl ?_
 refine xl_nil ?_
 refine x_seq (x_region rfl ?_)
 refine x_mv rfl rfl trivial rfl ?_
 refine xl_nil ?_
 refine x_cond_true rfl ?_
 refine x_seq (x_region rfl ?_)
 refine x_as rfl rfl trivial rfl ?_
 refine xl_nil ?_
 refine x_region rfl ?_
 refine x_ld rfl rfl trivial rfl (Loads.blk1 (v := .pointer (some ⟨q, 0, none⟩)) one_p_wire_Reader hw pK rfl) ?_
 refine x_ld rfl rfl trivial rfl (Loads.blk1 (v := .pointer (some ⟨q, 0, none⟩)) one_p_wire_Reader hw pK rfl) ?_
 refine x_mv rfl rfl trivial rfl ?_
 refine x_ld rfl rfl trivial rfl (Loads.blk1 (v := va) one_sl_uint8 hw pK rfl) ?_
 refine x_mv rfl rfl trivial rfl ?_
 refine x_st1 (l' := [.int .u32 0]) rfl trivial rfl rfl one_uint32 rfl hw pK rfl rfl rfl (fun w hw => ?_)
 refine x_nc rfl rfl trivial rfl ?_
 refine x_fld rfl rfl trivial fo_wire_Reader_0 rfl ?_
 refine x_st1 (l' := [va, .int .i64 0]) rfl trivial rfl rfl one_sl_uint8 hva hw pK rfl rfl rfl (fun w hw => ?_)
 refine x_nc rfl rfl trivial rfl ?_
 refine x_fld rfl rfl trivial fo_wire_Reader_1 rfl ?_
 refine x_st1 (l' := [va, .int .i64 ee]) rfl trivial rfl rfl one_api_Errno rfl hw pK rfl rfl rfl (fun w hw => ?_)
 refine xl_nil ?_
 exact endD0 rfl rfl (hw.bring (As := [blk b5 _ _, blk b4 _ _, blk b2 _ _, blk q _ _]) bR)
theorem ct_wire_read_uint32 {C : Assn} {D : Value → Assn} {f : FuncId} {caps : List Value} {out : RdS} (hw : Sat G (wrd q b 0 :: C :: L) w) (hf : Callable Tryz.prog f)
  (hdo : ∀ (M : List Assn) (w : World), Sat G (wrd q b 0 :: C :: M) w → Calls Tryz.prog f caps.toArray w (fun en w' => (∃ b' rv, out = some b' ∧ en = .returned rv ∧ rv.oneCell' = true ∧ Sat G (D rv :: wrd q b' 0 :: C :: M) w') ∨ (out = none ∧ ∃ ee b1, ee ≠ 0 ∧ en = pnE ee ∧ Sat G (wrd q b1 0 :: C :: M) w'))) :
  Calls Tryz.prog 90 #[.pointer (some ⟨q, 0, none⟩), .func (.func f) #[] caps.toArray] w (Ret fun r w' => (∃ b', out = some b' ∧ Sat G (D r :: wrd q b' 0 :: C :: L) w') ∨ (out = none ∧ r = .int .u32 0 ∧ Sat G (wrdE q :: C :: L) w')) := by
 obtain ⟨v, v0, b0, kv, hp, hw⟩ := wrd_open hw
 obtain ⟨a, cap, rfl⟩ := (((kv (C :: L)).of sF).at hw).form
 refine calls_of_xp (args := [_, _]) Tryz.func90 rfl Tryz.ntmps90 rfl rfl ?_
 refine xp_seq ?_
 refine xp_of (x_region rfl ?_)
 refine x_box rfl rfl trivial rfl rfl hw rfl (fun w b2 hw => ?_)
 refine x_alloc rfl rfl trivial z_uint32 hw rfl (fun w b4 hw => ?_)
 refine xl_nil ?_
 refine xp_seq ?_
 refine xp_seq ?_
 refine xp_of (x_region rfl ?_)
 refine x_ld rfl rfl trivial rfl (Loads.blk1 (v := .pointer (some ⟨q, 0, none⟩)) one_p_wire_Reader hw pK rfl) ?_
 refine x_nc rfl rfl trivial rfl ?_
 refine x_fld rfl rfl trivial fo_wire_Reader_1 rfl ?_
 refine x_ld rfl rfl trivial rfl (Loads.blk1 (v := .int .i64 0) one_api_Errno hw pK rfl) ?_
 refine x_ne rfl rfl trivial (by kernel_rfl) rfl rfl ?_
 refine xl_nil ?_
 refine xp_if rfl (fun h1 => ?_) (fun h1 => ?_)
 ·
  exact absurd rfl h1
 refine xp_of (x_skip ?_)
 refine xp_seq ?_
 refine xp_of (x_region rfl ?_)
 refine x_ld rfl rfl trivial rfl (Loads.blk1 (v := .pointer (some ⟨q, 0, none⟩)) one_p_wire_Reader hw pK rfl) ?_
 refine x_nc rfl rfl trivial rfl ?_
 refine x_fld rfl rfl trivial fo_wire_Reader_0 rfl ?_
 refine x_ld rfl rfl trivial rfl (Loads.blk1 (v := .slice a b.length cap) one_sl_uint8 hw pK rfl) ?_
 refine x_alloc rfl rfl trivial z_sl_uint8 hw rfl (fun w b5 hw => ?_)
 refine x_st1 (l' := [.slice a b.length cap]) rfl trivial rfl rfl one_sl_uint8 rfl hw pK rfl rfl rfl (fun w hw => ?_)
 refine xl_nil ?_
 refine xp_seq ?_
 refine xp_of (x_defer (fs := 0) (fn := .func 159) (first := #[]) (captured := #[.pointer (some ⟨b5, 0, none⟩), .pointer (some ⟨b4, 0, none⟩), .pointer (some ⟨b2, 0, none⟩)]) (hm := rfl) rfl ?_)
 refine x_mkf (v1 := #[]) (v2 := #[.pointer (some ⟨b5, 0, none⟩), .pointer (some ⟨b4, 0, none⟩), .pointer (some ⟨b2, 0, none⟩)]) rfl rfl trivial (by intro z hz; simp at hz; rcases hz with rfl | rfl | rfl <;> exact ⟨_, rfl⟩) (by simp) (by simp only [List.map_toArray, List.map_cons, List.map_nil]; rfl) ?_
 refine xl_nil ?_
 refine ⟨rfl, ?_⟩
 refine xp_seq ?_
 have hw := wrd_shut kv hp (hw.bring (As := [blk q _ _, row 5 1 v0 _ _]) bR)
 have hw := hw.bring (As := [wrd q b 0, C]) bR
 have hcap : ((#[] : Array Value).toList ++ ([] : List Value) ++ caps.toArray.toList).toArray = caps.toArray := by simp
 refine xp_call [0] 1 [2] rfl rfl rfl ?_
 refine x_mv rfl rfl trivial rfl ?_
 refine xl_nil ⟨f, #[], caps.toArray, [], _, rfl, hf, rfl, (by rw [hcap]; exact hdo _ w hw), ?_, ?_, ?_⟩
 rotate_left
 ·rintro ch w (⟨b1', rv, -, h, -, -⟩ | ⟨hz, ee, b1', hee, h, hw⟩)
  ·cases h
  cases h
  obtain ⟨v1, v2, b1, -, -, hw⟩ := wrd_open hw
  refine leave_rec (R := _) rfl cal_wire_read_uint32_1 (dp_wire_read_uint32_1 rfl (hw.bring (As := [blk b5 _ _, blk b4 _ _, blk b2 _ _, blk q _ _]) bR)) (fun x w hv => ?_)
  refine leave1 rfl ⟨_, rfl, (Loads.blk1 (v := .int .u32 0) one_uint32 hv pK rfl)⟩ (.inr ⟨hz, rfl, wrdE_in hee ?_⟩)
  have hz2 := (hv.bring (As := [blk b5 _ _, blk b4 _ _, blk b2 _ _, row 5 1 v2 _ _]) bR).tail.tail.tail.tail
  exact Sat.ex_in (.slice a b.length cap) (Sat.lift_in ⟨_, _, _, rfl⟩ hz2)
 ·rintro w (⟨b1', rv, -, h, -, -⟩ | ⟨-, ee, b1', -, h, -⟩) <;> cases h
 rintro v18 w (⟨b1', rv, hz, h, hone, hw⟩ | ⟨-, ee, b1', -, h, -⟩)
 rotate_left
 ·cases h
 injection h with h
 subst h
 refine x_st1 (l' := [v18]) rfl trivial rfl rfl one_uint32 hone hw pK rfl rfl rfl (fun w hw => ?_)
 refine xl_nil ?_
 refine xp_of (x_ret ?_)
 refine endE_of (bodyEnd_leave rfl ?_) (fun _ _ h => h)
 refine leave_call cal_wire_read_uint32_1 (dt_wire_read_uint32_1 hw) (fun v w hv => ?_)
 exact leave1 rfl ⟨_, rfl, (Loads.blk1 (v := v18) one_uint32 hv pK rfl)⟩ (.inl ⟨b1', hz, (hv.bring (As := [blk b4 _ _, blk b5 _ _, blk b2 _ _]) bR).tail.tail.tail⟩)
theorem ct_wire_readX_uint32 {fv : Value} (hw : Sat G (wrdE q :: L) w) : Calls Tryz.prog 90 #[.pointer (some ⟨q, 0, none⟩), fv] w (Ret fun r w' => r = .int .u32 0 ∧ Sat G (wrdE q :: L) w') := by
 obtain ⟨er, her, hw⟩ := wrdE_out hw
 obtain ⟨v, h⟩ := hw.ex_out
 obtain ⟨⟨a, m, c, rfl⟩, hw⟩ := h.lift_out
 refine calls_of_x (args := [_, _]) Tryz.func90 rfl Tryz.ntmps90 rfl rfl ?_
 refine x_seq ?_
 refine x_region rfl ?_
 refine x_box rfl rfl trivial rfl rfl hw rfl (fun w b2 hw => ?_)
 refine x_alloc rfl rfl trivial z_uint32 hw rfl (fun w b4 hw => ?_)
 refine xl_nil ?_
 refine x_seq ?_
 refine x_seq ?_
 refine x_region rfl ?_
 refine x_ld rfl rfl trivial rfl (Loads.blk1 (v := .pointer (some ⟨q, 0, none⟩)) one_p_wire_Reader hw pK rfl) ?_
 refine x_nc rfl rfl trivial rfl ?_
 refine x_fld rfl rfl trivial fo_wire_Reader_1 rfl ?_
 refine x_ld rfl rfl trivial rfl (Loads.blk1 (v := .int .i64 er) one_api_Errno hw pK rfl) ?_
 refine x_ne rfl rfl trivial (by kernel_rfl) rfl rfl ?_
 refine xl_nil ?_
 refine x_if rfl (fun h1 => ?_) (fun h1 => ?_)
 ·
  refine x_seq ?_
  refine x_region rfl ?_
  refine x_ld rfl rfl trivial rfl (Loads.blk1 (v := .int .u32 0) one_uint32 hw pK rfl) ?_
  refine x_st1 (l' := [.int .u32 0]) rfl trivial rfl rfl one_uint32 rfl hw pK rfl rfl rfl (fun w hw => ?_)
  refine xl_nil ?_
  refine x_ret ?_
  exact end1 rfl rfl ⟨_, rfl, (Loads.blk1 one_uint32 hw pK rfl)⟩ ⟨rfl, wrdE_in her (Sat.ex_in (.slice a m c) (Sat.lift_in ⟨_, _, _, rfl⟩ (hw.bring (As := [blk b4 _ _, blk b2 _ _]) bR).tail.tail))⟩
 exact absurd her h1
theorem dt_wire_read_byte_1 {p0 p1 p2 : Value} (hw : Sat G L w) : Defd Tryz.prog 235 #[p0, p1, p2] w (fun r w' => Sat G L w') := by
 obtain ⟨ms, hI⟩ := any_iface
 refine recD_of_x (u := .returning) (args := [_, _, _]) Tryz.func235 rfl Tryz.ntmps235 rfl rfl rfl rfl ?_
 refine x_seq (x_region rfl ?_)
 refine x_mv rfl rfl trivial rfl ?_
 refine x_ta0 rfl rfl trivial U_api_Errno zv_api_Errno rfl ?_
 refine x_mv rfl rfl trivial rfl ?_
 refine x_ext rfl rfl trivial rfl rfl ?_
 refine x_ext rfl rfl trivial rfl rfl ?_
 refine x_as rfl rfl trivial rfl ?_
 refine x_as rfl rfl trivial rfl ?_
 refine xl_nil ?_
 refine x_seq (x_region rfl ?_)
 refine x_mv rfl rfl trivial rfl ?_
 refine xl_nil ?_
 refine x_cond_false rfl ?_
 refine x_seq (x_region rfl ?_)
 refine x_mv rfl rfl trivial rfl ?_
 refine x_neI0 rfl rfl trivial hI rfl ?_
 refine xl_nil ?_
 refine x_cond_false rfl (x_skip ?_)
 exact endD0 rfl rfl hw
theorem dp_wire_read_byte_1 {va vb x0 : Value} {b2 b4 b5 : Nat} {ee : Int} (hva : va.oneCell' = true) (hw : Sat G (blk b5 [va] 22 :: blk b4 [x0] 22 :: blk b2 [.pointer (some ⟨q, 0, none⟩)] 107 :: blk q [vb, .int .i64 0] 177 :: L) w) :
  CallsDIn (Fw none) 0 Tryz.prog 235 #[.pointer (some ⟨b5, 0, none⟩), .pointer (some ⟨b4, 0, none⟩), .pointer (some ⟨b2, 0, none⟩)] (.panicking [{ v := .iface 31 (.int .i64 ee), recovered := false }]) w fun en u' w' =>
   u' = .panicking [{ v := .iface 31 (.int .i64 ee), recovered := true }] ∧ Ret (fun r w' => Sat G (blk b5 [va] 22 :: blk b4 [.slice none 0 0] 22 :: blk b2 [.pointer (some ⟨q, 0, none⟩)] 107 :: blk q [va, .int .i64 ee] 177 :: L) w') en w' := by
 refine recD_of_x (u := .panicking [{ v := .iface 31 (.int .i64 ee), recovered := false }]) (args := [_, _, _]) Tryz.func235 rfl Tryz.ntmps235 rfl rfl rfl rfl ?_
 refine x_seq (x_region rfl ?_)
 refine x_mv rfl rfl trivial rfl ?_
 refine x_ta1 rfl rfl trivial U_api_Errno (by simp) rfl ?_
 refine x_mv rfl rfl trivial rfl ?_
 refine x_ext rfl rfl trivial rfl rfl ?_
 refine x_ext rfl rfl trivial rfl rfl ?_
 refine x_as rfl rfl trivial rfl ?_
 refine x_as rfl rfl trivial rfl ?_
 refine xl_nil ?_
 refine x_seq (x_region rfl ?_)
 refine x_mv rfl rfl trivial rfl ?_
 refine xl_nil ?_
 refine x_cond_true rfl ?_
 refine x_seq (x_region rfl ?_)
 refine x_as rfl rfl trivial rfl ?_
 refine xl_nil ?_
 refine x_region rfl ?_
 refine x_ld rfl rfl trivial rfl (Loads.blk1 (v := .pointer (some ⟨q, 0, none⟩)) one_p_wire_Reader hw pK rfl) ?_
 refine x_ld rfl rfl trivial rfl (Loads.blk1 (v := .pointer (some ⟨q, 0, none⟩)) one_p_wire_Reader hw pK rfl) ?_
 refine x_mv rfl rfl trivial rfl ?_
 refine x_ld rfl rfl trivial rfl (Loads.blk1 (v := va) one_sl_uint8 hw pK rfl) ?_
 refine x_mv rfl rfl trivial rfl ?_
 refine x_st1 (l' := [.slice none 0 0]) rfl trivial rfl rfl one_sl_uint8 rfl hw pK rfl rfl rfl (fun w hw => ?_)
 refine x_nc rfl rfl trivial rfl ?_
 refine x_fld rfl rfl trivial fo_wire_Reader_0 rfl ?_
 refine x_st1 (l' := [va, .int .i64 0]) rfl trivial rfl rfl one_sl_uint8 hva hw pK rfl rfl rfl (fun w hw => ?_)
 refine x_nc rfl rfl trivial rfl ?_
 refine x_fld rfl rfl trivial fo_wire_Reader_1 rfl ?_
 refine x_st1 (l' := [va, .int .i64 ee]) rfl trivial rfl rfl one_api_Errno rfl hw pK rfl rfl rfl (fun w hw => ?_)
 refine xl_nil ?_
 exact endD0 rfl rfl (hw.bring (As := [blk b5 _ _, blk b4 _ _, blk b2 _ _, blk q _ _]) bR)
theorem ct_wire_read_byte {C : Assn} {D : Value → Assn} {f : FuncId} {caps : List Value} {out : RdS} (hw : Sat G (wrd q b 0 :: C :: L) w) (hf : Callable Tryz.prog f)
  (hdo : ∀ (M : List Assn) (w : World), Sat G (wrd q b 0 :: C :: M) w → Calls Tryz.prog f caps.toArray w (fun en w' => (∃ b' rv, out = some b' ∧ en = .returned rv ∧ rv.oneCell' = true ∧ Sat G (D rv :: wrd q b' 0 :: C :: M) w') ∨ (out = none ∧ ∃ ee b1, ee ≠ 0 ∧ en = pnE ee ∧ Sat G (wrd q b1 0 :: C :: M) w'))) :
  Calls Tryz.prog 163 #[.pointer (some ⟨q, 0, none⟩), .func (.func f) #[] caps.toArray] w (Ret fun r w' => (∃ b', out = some b' ∧ Sat G (D r :: wrd q b' 0 :: C :: L) w') ∨ (out = none ∧ r = .slice none 0 0 ∧ Sat G (wrdE q :: C :: L) w')) := by
 obtain ⟨v, v0, b0, kv, hp, hw⟩ := wrd_open hw
 obtain ⟨a, cap, rfl⟩ := (((kv (C :: L)).of sF).at hw).form
 refine calls_of_xp (args := [_, _]) Tryz.func163 rfl Tryz.ntmps163 rfl rfl ?_
 refine xp_seq ?_
 refine xp_of (x_region rfl ?_)
 refine x_box rfl rfl trivial rfl rfl hw rfl (fun w b2 hw => ?_)
 refine x_alloc rfl rfl trivial z_sl_uint8 hw rfl (fun w b4 hw => ?_)
 refine xl_nil ?_
 refine xp_seq ?_
 refine xp_seq ?_
 refine xp_of (x_region rfl ?_)
 refine x_ld rfl rfl trivial rfl (Loads.blk1 (v := .pointer (some ⟨q, 0, none⟩)) one_p_wire_Reader hw pK rfl) ?_
 refine x_nc rfl rfl trivial rfl ?_
 refine x_fld rfl rfl trivial fo_wire_Reader_1 rfl ?_
 refine x_ld rfl rfl trivial rfl (Loads.blk1 (v := .int .i64 0) one_api_Errno hw pK rfl) ?_
 refine x_ne rfl rfl trivial (by kernel_rfl) rfl rfl ?_
 refine xl_nil ?_
 refine xp_if rfl (fun h1 => ?_) (fun h1 => ?_)
 ·
  exact absurd rfl h1
 refine xp_of (x_skip ?_)
 refine xp_seq ?_
 refine xp_of (x_region rfl ?_)
 refine x_ld rfl rfl trivial rfl (Loads.blk1 (v := .pointer (some ⟨q, 0, none⟩)) one_p_wire_Reader hw pK rfl) ?_
 refine x_nc rfl rfl trivial rfl ?_
 refine x_fld rfl rfl trivial fo_wire_Reader_0 rfl ?_
 refine x_ld rfl rfl trivial rfl (Loads.blk1 (v := .slice a b.length cap) one_sl_uint8 hw pK rfl) ?_
 refine x_alloc rfl rfl trivial z_sl_uint8 hw rfl (fun w b5 hw => ?_)
 refine x_st1 (l' := [.slice a b.length cap]) rfl trivial rfl rfl one_sl_uint8 rfl hw pK rfl rfl rfl (fun w hw => ?_)
 refine xl_nil ?_
 refine xp_seq ?_
 refine xp_of (x_defer (fs := 0) (fn := .func 235) (first := #[]) (captured := #[.pointer (some ⟨b5, 0, none⟩), .pointer (some ⟨b4, 0, none⟩), .pointer (some ⟨b2, 0, none⟩)]) (hm := rfl) rfl ?_)
 refine x_mkf (v1 := #[]) (v2 := #[.pointer (some ⟨b5, 0, none⟩), .pointer (some ⟨b4, 0, none⟩), .pointer (some ⟨b2, 0, none⟩)]) rfl rfl trivial (by intro z hz; simp at hz; rcases hz with rfl | rfl | rfl <;> exact ⟨_, rfl⟩) (by simp) (by simp only [List.map_toArray, List.map_cons, List.map_nil]; rfl) ?_
 refine xl_nil ?_
 refine ⟨rfl, ?_⟩
 refine xp_seq ?_
 have hw := wrd_shut kv hp (hw.bring (As := [blk q _ _, row 5 1 v0 _ _]) bR)
 have hw := hw.bring (As := [wrd q b 0, C]) bR
 have hcap : ((#[] : Array Value).toList ++ ([] : List Value) ++ caps.toArray.toList).toArray = caps.toArray := by simp
 refine xp_call [0] 1 [2] rfl rfl rfl ?_
 refine x_mv rfl rfl trivial rfl ?_
 refine xl_nil ⟨f, #[], caps.toArray, [], _, rfl, hf, rfl, (by rw [hcap]; exact hdo _ w hw), ?_, ?_, ?_⟩
 rotate_left
 ·rintro ch w (⟨b1', rv, -, h, -, -⟩ | ⟨hz, ee, b1', hee, h, hw⟩)
  ·cases h
  cases h
  obtain ⟨v1, v2, b1, -, -, hw⟩ := wrd_open hw
  refine leave_rec (R := _) rfl cal_wire_read_byte_1 (dp_wire_read_byte_1 rfl (hw.bring (As := [blk b5 _ _, blk b4 _ _, blk b2 _ _, blk q _ _]) bR)) (fun x w hv => ?_)
  refine leave1 rfl ⟨_, rfl, (Loads.blk1 (v := .slice none 0 0) one_sl_uint8 hv pK rfl)⟩ (.inr ⟨hz, rfl, wrdE_in hee ?_⟩)
  have hz2 := (hv.bring (As := [blk b5 _ _, blk b4 _ _, blk b2 _ _, row 5 1 v2 _ _]) bR).tail.tail.tail.tail
  exact Sat.ex_in (.slice a b.length cap) (Sat.lift_in ⟨_, _, _, rfl⟩ hz2)
 ·rintro w (⟨b1', rv, -, h, -, -⟩ | ⟨-, ee, b1', -, h, -⟩) <;> cases h
 rintro v18 w (⟨b1', rv, hz, h, hone, hw⟩ | ⟨-, ee, b1', -, h, -⟩)
 rotate_left
 ·cases h
 injection h with h
 subst h
 refine x_st1 (l' := [v18]) rfl trivial rfl rfl one_sl_uint8 hone hw pK rfl rfl rfl (fun w hw => ?_)
 refine xl_nil ?_
 refine xp_of (x_ret ?_)
 refine endE_of (bodyEnd_leave rfl ?_) (fun _ _ h => h)
 refine leave_call cal_wire_read_byte_1 (dt_wire_read_byte_1 hw) (fun v w hv => ?_)
 exact leave1 rfl ⟨_, rfl, (Loads.blk1 (v := v18) one_sl_uint8 hv pK rfl)⟩ (.inl ⟨b1', hz, (hv.bring (As := [blk b4 _ _, blk b5 _ _, blk b2 _ _]) bR).tail.tail.tail⟩)
theorem ct_wire_readX_byte {fv : Value} (hw : Sat G (wrdE q :: L) w) : Calls Tryz.prog 163 #[.pointer (some ⟨q, 0, none⟩), fv] w (Ret fun r w' => r = .slice none 0 0 ∧ Sat G (wrdE q :: L) w') := by
 obtain ⟨er, her, hw⟩ := wrdE_out hw
 obtain ⟨v, h⟩ := hw.ex_out
 obtain ⟨⟨a, m, c, rfl⟩, hw⟩ := h.lift_out
 refine calls_of_x (args := [_, _]) Tryz.func163 rfl Tryz.ntmps163 rfl rfl ?_
 refine x_seq ?_
 refine x_region rfl ?_
 refine x_box rfl rfl trivial rfl rfl hw rfl (fun w b2 hw => ?_)
 refine x_alloc rfl rfl trivial z_sl_uint8 hw rfl (fun w b4 hw => ?_)
 refine xl_nil ?_
 refine x_seq ?_
 refine x_seq ?_
 refine x_region rfl ?_
 refine x_ld rfl rfl trivial rfl (Loads.blk1 (v := .pointer (some ⟨q, 0, none⟩)) one_p_wire_Reader hw pK rfl) ?_
 refine x_nc rfl rfl trivial rfl ?_
 refine x_fld rfl rfl trivial fo_wire_Reader_1 rfl ?_
 refine x_ld rfl rfl trivial rfl (Loads.blk1 (v := .int .i64 er) one_api_Errno hw pK rfl) ?_
 refine x_ne rfl rfl trivial (by kernel_rfl) rfl rfl ?_
 refine xl_nil ?_
 refine x_if rfl (fun h1 => ?_) (fun h1 => ?_)
 ·
  refine x_seq ?_
  refine x_region rfl ?_
  refine x_ld rfl rfl trivial rfl (Loads.blk1 (v := .slice none 0 0) one_sl_uint8 hw pK rfl) ?_
  refine x_st1 (l' := [.slice none 0 0]) rfl trivial rfl rfl one_sl_uint8 rfl hw pK rfl rfl rfl (fun w hw => ?_)
  refine xl_nil ?_
  refine x_ret ?_
  exact end1 rfl rfl ⟨_, rfl, (Loads.blk1 one_sl_uint8 hw pK rfl)⟩ ⟨rfl, wrdE_in her (Sat.ex_in (.slice a m c) (Sat.lift_in ⟨_, _, _, rfl⟩ (hw.bring (As := [blk b4 _ _, blk b2 _ _]) bR).tail.tail))⟩
 exact absurd her h1
theorem get_no_uint8 {p : Nat} (hw : Sat G (wrd q b 0 :: blk p [.pointer (some ⟨q, 0, none⟩)] 107 :: L) w) (hn : b.length < 1) :
  Calls Tryz.prog 96 #[.pointer (some ⟨p, 0, none⟩)] w (fun en w' => en = pnE 2 ∧ Sat G (wrd q b 0 :: blk p [.pointer (some ⟨q, 0, none⟩)] 107 :: L) w') := by
 refine calls_of_xp (args := [_]) Tryz.func96 rfl Tryz.ntmps96 rfl rfl ?_
 refine xp_seq (xp_of (x_region rfl ?_))
 refine x_as rfl rfl trivial rfl ?_
 refine xl_nil ?_
 refine xp_seq ?_
 replace hw := hw.drawn (w.drawn + 1)
 refine xp_draw2 0 1 2 1 mixed rfl (by kernel_rfl) (by kernel_rfl) (by kernel_rfl) (by kernel_rfl) (by kernel_rfl) rfl ?_ ?_
 ·refine x_ld rfl rfl trivial rfl (Loads.blk1 (v := .pointer (some ⟨q, 0, none⟩)) one_p_wire_Reader hw pK rfl) ?_
  refine x_call rfl rfl trivial cal_wire_width_uint8 rfl (ct_wire_width_uint8 hw) rfl (fun w v6 hv => ?_)
  obtain ⟨rfl, hw⟩ := hv
  refine xl_nil ⟨92, #[], #[], [_, _], _, rfl, cal_wire_Reader_take, rfl, take_no hw hn, ?_, ?_, ?_⟩
  ·rintro v w ⟨h, -⟩; cases h
  rotate_left
  ·rintro w ⟨h, -⟩; cases h
  rintro ch w ⟨h, hw⟩
  cases h
  exact endPn_plain rfl ⟨rfl, hw⟩
 refine x_call rfl rfl trivial cal_wire_width_uint8 rfl (ct_wire_width_uint8 hw) rfl (fun w v6 hv => ?_)
 obtain ⟨rfl, hw⟩ := hv
 refine x_ld rfl rfl trivial rfl (Loads.blk1 (v := .pointer (some ⟨q, 0, none⟩)) one_p_wire_Reader hw pK rfl) ?_
 refine xl_nil ⟨92, #[], #[], [_, _], _, rfl, cal_wire_Reader_take, rfl, take_no hw hn, ?_, ?_, ?_⟩
 ·rintro v w ⟨h, -⟩; cases h
 rotate_left
 ·rintro w ⟨h, -⟩; cases h
 rintro ch w ⟨h, hw⟩
 cases h
 exact endPn_plain rfl ⟨rfl, hw⟩
theorem rd_Get_uint8 {p : Nat} {s : RdS} (hw : Sat G (wrdS q s :: blk p [.pointer (some ⟨q, 0, none⟩)] 107 :: L) w) (hl : ∀ b, s = some b → b.length ≤ 1000000000000) :
  Calls Tryz.prog 95 #[.pointer (some ⟨q, 0, none⟩), .func (.func 96) #[] #[.pointer (some ⟨p, 0, none⟩)]] w (Ret fun r w' => r = .int .u8 ((getS 1 s).2 : Nat) ∧ Sat G (wrdS q (getS 1 s).1 :: L) w') := by
 cases s with
 | none => exact Calls.mono (ct_wire_readX_uint8 hw) fun en w' ⟨r, hr, h1, h2⟩ => ⟨r, hr, h1, h2.swap1⟩
 | some b =>
  have hl := hl b rfl
  refine Calls.mono (ct_wire_read_uint8 (D := fun r => lift (r = .int .u8 ((getS 1 (some b)).2 : Nat)) (both [])) (caps := [.pointer (some ⟨p, 0, none⟩)]) (out := (getS 1 (some b)).1) hw cal_wire_Get_uint8_1 (fun M w hw => ?_)) fun en w' ⟨r, hr, h⟩ => ⟨r, hr, ?_⟩
  ·by_cases hn : 1 ≤ b.length
   ·refine Calls.mono (ct_wire_Get_uint8_1 hw hn hl) fun en w' ⟨r, hr, h1, h2⟩ => .inl ⟨b.drop 1, r, by simp [getS, hn], hr, by rw [h1]; rfl, ?_⟩
    exact Sat.lift_in (by rw [h1]; simp [getS, hn]) (Sat.both_in (M := []) h2)
   refine Calls.mono (get_no_uint8 hw (by omega)) fun en w' ⟨h1, h2⟩ => .inr ⟨by simp [getS, hn], 2, b, by decide, h1, h2⟩
  rcases h with ⟨b', h1, h2⟩ | ⟨h1, h2, h3⟩
  ·obtain ⟨h4, h5⟩ := h2.lift_out
   rw [h1]
   exact ⟨h4, h5.both_out.swap1⟩
  refine ⟨?_, by rw [h1]; exact h3.swap1⟩
  rw [h2]
  have : (getS 1 (some b)).2 = 0 := by
   simp only [getS] at h1 ⊢
   split at h1
   ·cases h1
   rename_i h; rw [if_neg h]
  rw [this]; rfl
theorem ct_wire_GetS_uint8 {s : RdS} (hw : Sat G (wrdS q s :: L) w) (hl : ∀ b, s = some b → b.length ≤ 1000000000000) : Calls Tryz.prog 43 #[.pointer (some ⟨q, 0, none⟩)] w (Ret fun r w' => r = .int .u8 ((getS 1 s).2 : Nat) ∧ Sat G (wrdS q (getS 1 s).1 :: L) w') := by
 refine calls_of_x (args := [_]) Tryz.func43 rfl Tryz.ntmps43 rfl rfl ?_
 refine x_seq ?_
 refine x_region rfl ?_
 refine x_box rfl rfl trivial rfl rfl hw rfl (fun w b1 hw => ?_)
 refine x_as rfl rfl trivial rfl ?_
 refine xl_nil ?_
 refine x_seq ?_
 refine x_region rfl ?_
 refine x_ld rfl rfl trivial rfl (Loads.blk1 (v := .pointer (some ⟨q, 0, none⟩)) one_p_wire_Reader hw pK rfl) ?_
 refine x_mkf (v1 := #[]) (v2 := #[.pointer (some ⟨b1, 0, none⟩)]) rfl rfl trivial (by intro z hz; simp at hz; subst hz; exact ⟨_, rfl⟩) (by simp) (by simp only [List.map_toArray, List.map_cons, List.map_nil]; rfl) ?_
 have hw := hw.bring (As := [wrdS q s, blk b1 _ _]) bR
 refine x_call rfl rfl trivial cal_wire_read_uint8 rfl (rd_Get_uint8 hw hl) rfl (fun w v5 hv => ?_)
 obtain ⟨rfl, hw⟩ := hv
 refine x_as rfl rfl trivial rfl ?_
 refine xl_nil ?_
 refine x_ret ?_
 exact end1 rfl rfl rfl ⟨rfl, hw⟩
theorem get_no_uint16 {p : Nat} (hw : Sat G (wrd q b 0 :: blk p [.pointer (some ⟨q, 0, none⟩)] 107 :: L) w) (hn : b.length < 2) :
  Calls Tryz.prog 237 #[.pointer (some ⟨p, 0, none⟩)] w (fun en w' => en = pnE 2 ∧ Sat G (wrd q b 0 :: blk p [.pointer (some ⟨q, 0, none⟩)] 107 :: L) w') := by
 refine calls_of_xp (args := [_]) Tryz.func237 rfl Tryz.ntmps237 rfl rfl ?_
 refine xp_seq (xp_of (x_region rfl ?_))
 refine x_as rfl rfl trivial rfl ?_
 refine xl_nil ?_
 refine xp_seq ?_
 replace hw := hw.drawn (w.drawn + 1)
 refine xp_draw2 0 1 2 1 mixed rfl (by kernel_rfl) (by kernel_rfl) (by kernel_rfl) (by kernel_rfl) (by kernel_rfl) rfl ?_ ?_
 ·refine x_ld rfl rfl trivial rfl (Loads.blk1 (v := .pointer (some ⟨q, 0, none⟩)) one_p_wire_Reader hw pK rfl) ?_
  refine x_call rfl rfl trivial cal_wire_width_uint16 rfl (ct_wire_width_uint16 hw) rfl (fun w v6 hv => ?_)
  obtain ⟨rfl, hw⟩ := hv
  refine xl_nil ⟨92, #[], #[], [_, _], _, rfl, cal_wire_Reader_take, rfl, take_no hw hn, ?_, ?_, ?_⟩
  ·rintro v w ⟨h, -⟩; cases h
  rotate_left
  ·rintro w ⟨h, -⟩; cases h
  rintro ch w ⟨h, hw⟩
  cases h
  exact endPn_plain rfl ⟨rfl, hw⟩
 refine x_call rfl rfl trivial cal_wire_width_uint16 rfl (ct_wire_width_uint16 hw) rfl (fun w v6 hv => ?_)
 obtain ⟨rfl, hw⟩ := hv
 refine x_ld rfl rfl trivial rfl (Loads.blk1 (v := .pointer (some ⟨q, 0, none⟩)) one_p_wire_Reader hw pK rfl) ?_
 refine xl_nil ⟨92, #[], #[], [_, _], _, rfl, cal_wire_Reader_take, rfl, take_no hw hn, ?_, ?_, ?_⟩
 ·rintro v w ⟨h, -⟩; cases h
 rotate_left
 ·rintro w ⟨h, -⟩; cases h
 rintro ch w ⟨h, hw⟩
 cases h
 exact endPn_plain rfl ⟨rfl, hw⟩
theorem rd_Get_uint16 {p : Nat} {s : RdS} (hw : Sat G (wrdS q s :: blk p [.pointer (some ⟨q, 0, none⟩)] 107 :: L) w) (hl : ∀ b, s = some b → b.length ≤ 1000000000000) :
  Calls Tryz.prog 236 #[.pointer (some ⟨q, 0, none⟩), .func (.func 237) #[] #[.pointer (some ⟨p, 0, none⟩)]] w (Ret fun r w' => r = .int .u16 ((getS 2 s).2 : Nat) ∧ Sat G (wrdS q (getS 2 s).1 :: L) w') := by
 cases s with
 | none => exact Calls.mono (ct_wire_readX_uint16 hw) fun en w' ⟨r, hr, h1, h2⟩ => ⟨r, hr, h1, h2.swap1⟩
 | some b =>
  have hl := hl b rfl
  refine Calls.mono (ct_wire_read_uint16 (D := fun r => lift (r = .int .u16 ((getS 2 (some b)).2 : Nat)) (both [])) (caps := [.pointer (some ⟨p, 0, none⟩)]) (out := (getS 2 (some b)).1) hw cal_wire_Get_uint16_1 (fun M w hw => ?_)) fun en w' ⟨r, hr, h⟩ => ⟨r, hr, ?_⟩
  ·by_cases hn : 2 ≤ b.length
   ·refine Calls.mono (ct_wire_Get_uint16_1 hw hn hl) fun en w' ⟨r, hr, h1, h2⟩ => .inl ⟨b.drop 2, r, by simp [getS, hn], hr, by rw [h1]; rfl, ?_⟩
    exact Sat.lift_in (by rw [h1]; simp [getS, hn]) (Sat.both_in (M := []) h2)
   refine Calls.mono (get_no_uint16 hw (by omega)) fun en w' ⟨h1, h2⟩ => .inr ⟨by simp [getS, hn], 2, b, by decide, h1, h2⟩
  rcases h with ⟨b', h1, h2⟩ | ⟨h1, h2, h3⟩
  ·obtain ⟨h4, h5⟩ := h2.lift_out
   rw [h1]
   exact ⟨h4, h5.both_out.swap1⟩
  refine ⟨?_, by rw [h1]; exact h3.swap1⟩
  rw [h2]
  have : (getS 2 (some b)).2 = 0 := by
   simp only [getS] at h1 ⊢
   split at h1
   ·cases h1
   rename_i h; rw [if_neg h]
  rw [this]; rfl
theorem ct_wire_GetS_uint16 {s : RdS} (hw : Sat G (wrdS q s :: L) w) (hl : ∀ b, s = some b → b.length ≤ 1000000000000) : Calls Tryz.prog 165 #[.pointer (some ⟨q, 0, none⟩)] w (Ret fun r w' => r = .int .u16 ((getS 2 s).2 : Nat) ∧ Sat G (wrdS q (getS 2 s).1 :: L) w') := by
 refine calls_of_x (args := [_]) Tryz.func165 rfl Tryz.ntmps165 rfl rfl ?_
 refine x_seq ?_
 refine x_region rfl ?_
 refine x_box rfl rfl trivial rfl rfl hw rfl (fun w b1 hw => ?_)
 refine x_as rfl rfl trivial rfl ?_
 refine xl_nil ?_
 refine x_seq ?_
 refine x_region rfl ?_
 refine x_ld rfl rfl trivial rfl (Loads.blk1 (v := .pointer (some ⟨q, 0, none⟩)) one_p_wire_Reader hw pK rfl) ?_
 refine x_mkf (v1 := #[]) (v2 := #[.pointer (some ⟨b1, 0, none⟩)]) rfl rfl trivial (by intro z hz; simp at hz; subst hz; exact ⟨_, rfl⟩) (by simp) (by simp only [List.map_toArray, List.map_cons, List.map_nil]; rfl) ?_
 have hw := hw.bring (As := [wrdS q s, blk b1 _ _]) bR
 refine x_call rfl rfl trivial cal_wire_read_uint16 rfl (rd_Get_uint16 hw hl) rfl (fun w v5 hv => ?_)
 obtain ⟨rfl, hw⟩ := hv
 refine x_as rfl rfl trivial rfl ?_
 refine xl_nil ?_
 refine x_ret ?_
 exact end1 rfl rfl rfl ⟨rfl, hw⟩
theorem get_no_uint32 {p : Nat} (hw : Sat G (wrd q b 0 :: blk p [.pointer (some ⟨q, 0, none⟩)] 107 :: L) w) (hn : b.length < 4) :
  Calls Tryz.prog 91 #[.pointer (some ⟨p, 0, none⟩)] w (fun en w' => en = pnE 2 ∧ Sat G (wrd q b 0 :: blk p [.pointer (some ⟨q, 0, none⟩)] 107 :: L) w') := by
 refine calls_of_xp (args := [_]) Tryz.func91 rfl Tryz.ntmps91 rfl rfl ?_
 refine xp_seq (xp_of (x_region rfl ?_))
 refine x_as rfl rfl trivial rfl ?_
 refine xl_nil ?_
 refine xp_seq ?_
 replace hw := hw.drawn (w.drawn + 1)
 refine xp_draw2 0 1 2 1 mixed rfl (by kernel_rfl) (by kernel_rfl) (by kernel_rfl) (by kernel_rfl) (by kernel_rfl) rfl ?_ ?_
 ·refine x_ld rfl rfl trivial rfl (Loads.blk1 (v := .pointer (some ⟨q, 0, none⟩)) one_p_wire_Reader hw pK rfl) ?_
  refine x_call rfl rfl trivial cal_wire_width_uint32 rfl (ct_wire_width_uint32 hw) rfl (fun w v6 hv => ?_)
  obtain ⟨rfl, hw⟩ := hv
  refine xl_nil ⟨92, #[], #[], [_, _], _, rfl, cal_wire_Reader_take, rfl, take_no hw hn, ?_, ?_, ?_⟩
  ·rintro v w ⟨h, -⟩; cases h
  rotate_left
  ·rintro w ⟨h, -⟩; cases h
  rintro ch w ⟨h, hw⟩
  cases h
  exact endPn_plain rfl ⟨rfl, hw⟩
 refine x_call rfl rfl trivial cal_wire_width_uint32 rfl (ct_wire_width_uint32 hw) rfl (fun w v6 hv => ?_)
 obtain ⟨rfl, hw⟩ := hv
 refine x_ld rfl rfl trivial rfl (Loads.blk1 (v := .pointer (some ⟨q, 0, none⟩)) one_p_wire_Reader hw pK rfl) ?_
 refine xl_nil ⟨92, #[], #[], [_, _], _, rfl, cal_wire_Reader_take, rfl, take_no hw hn, ?_, ?_, ?_⟩
 ·rintro v w ⟨h, -⟩; cases h
 rotate_left
 ·rintro w ⟨h, -⟩; cases h
 rintro ch w ⟨h, hw⟩
 cases h
 exact endPn_plain rfl ⟨rfl, hw⟩
theorem rd_Get_uint32 {p : Nat} {s : RdS} (hw : Sat G (wrdS q s :: blk p [.pointer (some ⟨q, 0, none⟩)] 107 :: L) w) (hl : ∀ b, s = some b → b.length ≤ 1000000000000) :
  Calls Tryz.prog 90 #[.pointer (some ⟨q, 0, none⟩), .func (.func 91) #[] #[.pointer (some ⟨p, 0, none⟩)]] w (Ret fun r w' => r = .int .u32 ((getS 4 s).2 : Nat) ∧ Sat G (wrdS q (getS 4 s).1 :: L) w') := by
 cases s with
 | none => exact Calls.mono (ct_wire_readX_uint32 hw) fun en w' ⟨r, hr, h1, h2⟩ => ⟨r, hr, h1, h2.swap1⟩
 | some b =>
  have hl := hl b rfl
  refine Calls.mono (ct_wire_read_uint32 (D := fun r => lift (r = .int .u32 ((getS 4 (some b)).2 : Nat)) (both [])) (caps := [.pointer (some ⟨p, 0, none⟩)]) (out := (getS 4 (some b)).1) hw cal_wire_Get_uint32_1 (fun M w hw => ?_)) fun en w' ⟨r, hr, h⟩ => ⟨r, hr, ?_⟩
  ·by_cases hn : 4 ≤ b.length
   ·refine Calls.mono (ct_wire_Get_uint32_1 hw hn hl) fun en w' ⟨r, hr, h1, h2⟩ => .inl ⟨b.drop 4, r, by simp [getS, hn], hr, by rw [h1]; rfl, ?_⟩
    exact Sat.lift_in (by rw [h1]; simp [getS, hn]) (Sat.both_in (M := []) h2)
   refine Calls.mono (get_no_uint32 hw (by omega)) fun en w' ⟨h1, h2⟩ => .inr ⟨by simp [getS, hn], 2, b, by decide, h1, h2⟩
  rcases h with ⟨b', h1, h2⟩ | ⟨h1, h2, h3⟩
  ·obtain ⟨h4, h5⟩ := h2.lift_out
   rw [h1]
   exact ⟨h4, h5.both_out.swap1⟩
  refine ⟨?_, by rw [h1]; exact h3.swap1⟩
  rw [h2]
  have : (getS 4 (some b)).2 = 0 := by
   simp only [getS] at h1 ⊢
   split at h1
   ·cases h1
   rename_i h; rw [if_neg h]
  rw [this]; rfl
theorem ct_wire_GetS_uint32 {s : RdS} (hw : Sat G (wrdS q s :: L) w) (hl : ∀ b, s = some b → b.length ≤ 1000000000000) : Calls Tryz.prog 40 #[.pointer (some ⟨q, 0, none⟩)] w (Ret fun r w' => r = .int .u32 ((getS 4 s).2 : Nat) ∧ Sat G (wrdS q (getS 4 s).1 :: L) w') := by
 refine calls_of_x (args := [_]) Tryz.func40 rfl Tryz.ntmps40 rfl rfl ?_
 refine x_seq ?_
 refine x_region rfl ?_
 refine x_box rfl rfl trivial rfl rfl hw rfl (fun w b1 hw => ?_)
 refine x_as rfl rfl trivial rfl ?_
 refine xl_nil ?_
 refine x_seq ?_
 refine x_region rfl ?_
 refine x_ld rfl rfl trivial rfl (Loads.blk1 (v := .pointer (some ⟨q, 0, none⟩)) one_p_wire_Reader hw pK rfl) ?_
 refine x_mkf (v1 := #[]) (v2 := #[.pointer (some ⟨b1, 0, none⟩)]) rfl rfl trivial (by intro z hz; simp at hz; subst hz; exact ⟨_, rfl⟩) (by simp) (by simp only [List.map_toArray, List.map_cons, List.map_nil]; rfl) ?_
 have hw := hw.bring (As := [wrdS q s, blk b1 _ _]) bR
 refine x_call rfl rfl trivial cal_wire_read_uint32 rfl (rd_Get_uint32 hw hl) rfl (fun w v5 hv => ?_)
 obtain ⟨rfl, hw⟩ := hv
 refine x_as rfl rfl trivial rfl ?_
 refine xl_nil ?_
 refine x_ret ?_
 exact end1 rfl rfl rfl ⟨rfl, hw⟩
def capC (p1 p2 q n : Nat) : Assn := both [blk p1 [.pointer (some ⟨q, 0, none⟩)] 107, blk p2 [.int .i64 n] 3]
def rowD (l : Bys) (r : Value) : Assn := row 5 1 r l.length (bys l)
theorem ct_Raw_1 {p1 p2 n : Nat} (hw : Sat G (wrd q b 0 :: capC p1 p2 q n :: L) w) (hl : b.length ≤ 1000000000000) (hn : n ≤ 1000000000001) :
  Calls Tryz.prog 238 #[.pointer (some ⟨p1, 0, none⟩), .pointer (some ⟨p2, 0, none⟩)] w (fun en w' => (∃ b' rv, (rawS n (some b)).1 = some b' ∧ en = .returned rv ∧ rv.oneCell' = true ∧ Sat G (rowD (rawS n (some b)).2 rv :: wrd q b' 0 :: capC p1 p2 q n :: L) w') ∨
   ((rawS n (some b)).1 = none ∧ ∃ ee b1, ee ≠ 0 ∧ en = pnE ee ∧ Sat G (wrd q b1 0 :: capC p1 p2 q n :: L) w')) := by
 have hw := (hw.bring (As := [capC p1 p2 q n]) bR).both_out
 replace hw : Sat G (blk p1 [.pointer (some ⟨q, 0, none⟩)] 107 :: blk p2 [.int .i64 n] 3 :: wrd q b 0 :: L) w := hw
 refine calls_of_xp (args := [_, _]) Tryz.func238 rfl Tryz.ntmps238 rfl rfl ?_
 refine xp_seq (xp_of (x_region rfl ?_))
 refine x_as rfl rfl trivial rfl ?_
 refine xl_nil ?_
 by_cases hk : n ≤ b.length
 ·refine xp_seq (xp_of (x_region rfl ?_))
  refine x_ld rfl rfl trivial rfl (Loads.blk1 (v := .pointer (some ⟨q, 0, none⟩)) one_p_wire_Reader hw pK rfl) ?_
  refine x_ld rfl rfl trivial rfl (Loads.blk1 (v := .int .i64 n) one_int hw pK rfl) ?_
  refine x_call rfl rfl trivial cal_wire_Reader_take rfl (ct_wire_Reader_take (n := n) (hw.bring (As := [wrd q b 0]) bR) hk hl) rfl (fun w v5 hv => ?_)
  have hw := hv
  refine x_as rfl rfl trivial rfl ?_
  refine xl_nil ?_
  refine xp_of (x_ret ?_)
  have hz : Sat G (wrd q (b.drop n) 0 :: row 5 1 v5 n (bys (b.take n)) :: capC p1 p2 q n :: L) w := by
   have h1 := hw.bring (As := [blk p1 _ _, blk p2 _ _]) bR
   exact (Sat.both_in (M := [blk p1 _ _, blk p2 _ _]) h1).bring (As := [wrd q _ 0, row 5 1 v5 _ _]) bR
  have hlen : (b.take n).length = n := by rw [List.length_take]; omega
  have e1 : rawS n (some b) = (some (b.drop n), b.take n) := by simp [rawS, hk]
  rw [e1]
  refine endE_of (R := fun r w' => r = v5 ∧ Sat G (row 5 1 v5 n (bys (b.take n)) :: wrd q (b.drop n) 0 :: capC p1 p2 q n :: L) w') (end1 rfl rfl rfl ⟨rfl, hz.bring (As := [row 5 1 v5 _ _]) bR⟩) ?_
  rintro en w ⟨r, rfl, rfl, h2⟩
  refine .inl ⟨_, _, rfl, rfl, ?_, ?_⟩
  ·obtain ⟨a, c, rfl⟩ := row_form h2; rfl
  show Sat G (row 5 1 _ (b.take n).length (bys (b.take n)) :: _) w
  rw [hlen]; exact h2
 refine xp_seq ?_
 refine xp_call [0, 1] 2 [3] rfl rfl rfl ?_
 refine x_ld rfl rfl trivial rfl (Loads.blk1 (v := .pointer (some ⟨q, 0, none⟩)) one_p_wire_Reader hw pK rfl) ?_
 refine x_ld rfl rfl trivial rfl (Loads.blk1 (v := .int .i64 n) one_int hw pK rfl) ?_
 refine xl_nil ⟨92, #[], #[], [_, _], _, rfl, cal_wire_Reader_take, rfl, take_no (n := n) (hw.bring (As := [wrd q b 0]) bR) (by omega), ?_, ?_, ?_⟩
 ·rintro v w ⟨h, -⟩; cases h
 rotate_left
 ·rintro w ⟨h, -⟩; cases h
 rintro ch w ⟨h, hw⟩
 cases h
 refine endPn_plain rfl (.inr ⟨by simp [rawS, hk], 2, b, by decide, rfl, ?_⟩)
 have h1 := hw.bring (As := [blk p1 _ _, blk p2 _ _]) bR
 exact (Sat.both_in (M := [blk p1 _ _, blk p2 _ _]) h1).bring (As := [wrd q _ 0]) bR
theorem ct_Short_1 {p1 p2 n : Nat} (hw : Sat G (wrd q b 0 :: capC p1 p2 q n :: L) w) (hl : b.length ≤ 1000000000000) :
  Calls Tryz.prog 164 #[.pointer (some ⟨p1, 0, none⟩), .pointer (some ⟨p2, 0, none⟩)] w (fun en w' => (∃ b' rv, (shortS n (some b)).1 = some b' ∧ en = .returned rv ∧ rv.oneCell' = true ∧ Sat G (rowD (shortS n (some b)).2 rv :: wrd q b' 0 :: capC p1 p2 q n :: L) w') ∨
   ((shortS n (some b)).1 = none ∧ ∃ ee b1, ee ≠ 0 ∧ en = pnE ee ∧ Sat G (wrd q b1 0 :: capC p1 p2 q n :: L) w')) := by
 have hw := (hw.bring (As := [capC p1 p2 q n]) bR).both_out
 replace hw : Sat G (blk p1 [.pointer (some ⟨q, 0, none⟩)] 107 :: blk p2 [.int .i64 n] 3 :: wrd q b 0 :: L) w := hw
 have hcl : ∀ {b1 : Bys} {L' : List Assn} {w : World}, Sat G (blk p1 [.pointer (some ⟨q, 0, none⟩)] 107 :: blk p2 [.int .i64 n] 3 :: wrd q b1 0 :: L') w → Sat G (wrd q b1 0 :: capC p1 p2 q n :: L') w := fun {b1 L' w} h =>
  (Sat.both_in (M := [blk p1 _ _, blk p2 _ _]) h).bring (As := [wrd q _ 0]) bR
 refine calls_of_xp (args := [_, _]) Tryz.func164 rfl Tryz.ntmps164 rfl rfl ?_
 refine xp_seq (xp_of (x_region rfl ?_))
 refine x_as rfl rfl trivial rfl ?_
 refine xl_nil ?_
 rcases b with _ | ⟨x, r⟩
 ·refine xp_seq ?_
  refine xp_call [0] 1 [2, 3, 4, 5] rfl rfl rfl ?_
  refine x_ld rfl rfl trivial rfl (Loads.blk1 (v := .pointer (some ⟨q, 0, none⟩)) one_p_wire_Reader hw pK rfl) ?_
  refine xl_nil ⟨92, #[], #[], [_, _], _, rfl, cal_wire_Reader_take, rfl, take_no (n := 1) (hw.bring (As := [wrd q [] 0]) bR) (by simp), ?_, ?_, ?_⟩
  ·rintro v w ⟨h, -⟩; cases h
  rotate_left
  ·rintro w ⟨h, -⟩; cases h
  rintro ch w ⟨h, hw⟩
  cases h
  exact endPn_plain rfl (.inr ⟨rfl, 2, _, by decide, rfl, hcl (hw.bring (As := [blk p1 _ _, blk p2 _ _]) bR)⟩)
 simp only [List.length_cons] at hl
 refine xp_seq (xp_of (x_region rfl ?_))
 refine x_ld rfl rfl trivial rfl (Loads.blk1 (v := .pointer (some ⟨q, 0, none⟩)) one_p_wire_Reader hw pK rfl) ?_
 refine x_call rfl rfl trivial cal_wire_Reader_take rfl (ct_wire_Reader_take (n := 1) (hw.bring (As := [wrd q _ 0]) bR) (by simp) (by simp only [List.length_cons]; omega)) rfl (fun w v5 hv => ?_)
 have hw : Sat G (wrd q r 0 :: row 5 1 v5 1 (bys [x]) :: blk p1 [.pointer (some ⟨q, 0, none⟩)] 107 :: blk p2 [.int .i64 n] 3 :: L) w := hv
 have hw := hw.bring (As := [row 5 1 v5 _ _, blk p1 _ _, blk p2 _ _, wrd q _ 0]) bR
 have hk := ((SlB.row (T := 5) (v := v5) (l := [x])).head (blk p1 [.pointer (some ⟨q, 0, none⟩)] 107 :: blk p2 [.int .i64 n] 3 :: wrd q r 0 :: L)).at hw
 obtain ⟨a5, c5, rfl⟩ := hk.form
 obtain ⟨bb, oo, rfl⟩ := hk.nn (by simp)
 refine x_idx1 rfl rfl trivial U_sl_uint8 sz_uint8 rfl rfl ⟨by simp, by simp⟩ ?_
 refine x_ld rfl rfl trivial rfl (Loads.one (v := bv x) one_uint8 (by have h := hk.at (i := (0 : Int)) ⟨by simp, by simp⟩; simpa using h)) ?_
 refine x_conv rfl rfl trivial (by kernel_rfl) U_uint8 U_int rfl ?_
 rw [show IntKind.i64.wrap ((x.toNat : Nat) : Int) = ((x.toNat : Nat) : Int) from wrap64 (by have := x.toNat_lt; omega)]
 refine x_as rfl rfl trivial rfl ?_
 refine xl_nil ?_
 by_cases h1 : x.toNat ≤ n
 rotate_left
 ·refine xp_seq ?_
  refine xp_call [0, 1, 2] 3 [] rfl rfl rfl ?_
  refine x_mv rfl rfl trivial rfl ?_
  refine x_ld rfl rfl trivial rfl (Loads.blk1 (v := .int .i64 n) one_int hw pK rfl) ?_
  refine x_le rfl rfl trivial rfl rfl ?_
  rw [decide_eq_false (show ¬ ((x.toNat : Nat) : Int) ≤ ((n : Nat) : Int) by omega)]
  refine xl_nil ⟨160, #[], #[], [.bool false, .int .i64 4], _, rfl, cal_wire_must, rfl, must_no (e := 4) hw, ?_, ?_, ?_⟩
  ·rintro v w ⟨h, -⟩; cases h
  rotate_left
  ·rintro w ⟨h, -⟩; cases h
  rintro ch w ⟨h, hw⟩
  cases h
  exact endPn_plain rfl (.inr ⟨by simp [shortS, h1], 4, r, by decide, rfl, hcl hw.tail⟩)
 refine xp_seq (xp_of (x_region rfl ?_))
 refine x_mv rfl rfl trivial rfl ?_
 refine x_ld rfl rfl trivial rfl (Loads.blk1 (v := .int .i64 n) one_int hw pK rfl) ?_
 refine x_le rfl rfl trivial rfl rfl ?_
 refine x_call rfl rfl trivial cal_wire_must rfl (ct_wire_must (by omega) hw) rfl (fun w v12 hv => ?_)
 obtain ⟨rfl, hw⟩ := hv
 refine xl_nil ?_
 have hw := hw.tail
 by_cases h2 : x.toNat ≤ r.length
 rotate_left
 ·refine xp_seq ?_
  refine xp_call [0, 1] 2 [3] rfl rfl rfl ?_
  refine x_ld rfl rfl trivial rfl (Loads.blk1 (v := .pointer (some ⟨q, 0, none⟩)) one_p_wire_Reader hw pK rfl) ?_
  refine x_mv rfl rfl trivial rfl ?_
  refine xl_nil ⟨92, #[], #[], [_, _], _, rfl, cal_wire_Reader_take, rfl, take_no (n := x.toNat) (hw.bring (As := [wrd q r 0]) bR) (by omega), ?_, ?_, ?_⟩
  ·rintro v w ⟨h, -⟩; cases h
  rotate_left
  ·rintro w ⟨h, -⟩; cases h
  rintro ch w ⟨h, hw⟩
  cases h
  exact endPn_plain rfl (.inr ⟨by simp [shortS, h2], 2, r, by decide, rfl, hcl (hw.bring (As := [blk p1 _ _, blk p2 _ _]) bR)⟩)
 refine xp_seq (xp_of (x_region rfl ?_))
 refine x_ld rfl rfl trivial rfl (Loads.blk1 (v := .pointer (some ⟨q, 0, none⟩)) one_p_wire_Reader hw pK rfl) ?_
 refine x_mv rfl rfl trivial rfl ?_
 refine x_call rfl rfl trivial cal_wire_Reader_take rfl (ct_wire_Reader_take (n := x.toNat) (hw.bring (As := [wrd q r 0]) bR) h2 (by omega)) rfl (fun w v15 hv => ?_)
 have hw := hv
 refine x_as rfl rfl trivial rfl ?_
 refine xl_nil ?_
 refine xp_of (x_ret ?_)
 have hz : Sat G (row 5 1 v15 x.toNat (bys (r.take x.toNat)) :: wrd q (r.drop x.toNat) 0 :: capC p1 p2 q n :: L) w :=
  (hcl (hw.bring (As := [blk p1 _ _, blk p2 _ _, wrd q _ 0]) bR)).bring (As := [row 5 1 v15 _ _]) bR
 have hlen : (r.take x.toNat).length = x.toNat := by rw [List.length_take]; omega
 have e1 : shortS n (some (x :: r)) = (some (r.drop x.toNat), r.take x.toNat) := by simp [shortS, h1, h2]
 rw [e1]
 refine endE_of (R := fun r' w' => r' = v15 ∧ Sat G (row 5 1 v15 x.toNat (bys (r.take x.toNat)) :: wrd q (r.drop x.toNat) 0 :: capC p1 p2 q n :: L) w') (end1 rfl rfl rfl ⟨rfl, hz⟩) ?_
 rintro en w ⟨r', rfl, rfl, h2⟩
 refine .inl ⟨_, _, rfl, rfl, ?_, ?_⟩
 ·obtain ⟨a, c, rfl⟩ := row_form h2; rfl
 show Sat G (row 5 1 _ (r.take x.toNat).length (bys (r.take x.toNat)) :: _) w
 rw [hlen]; exact h2
theorem rd_bytes {F : FuncId} {p1 p2 n : Nat} {s : RdS} (val : RdS → RdS × Bys) (hv0 : val none = (none, [])) (hvn : ∀ b, (val (some b)).1 = none → (val (some b)).2 = []) (hw : Sat G (wrdS q s :: capC p1 p2 q n :: L) w) (hF : Callable Tryz.prog F)
  (hdo : ∀ (b : Bys) (M : List Assn) (w : World), s = some b → Sat G (wrd q b 0 :: capC p1 p2 q n :: M) w → Calls Tryz.prog F #[.pointer (some ⟨p1, 0, none⟩), .pointer (some ⟨p2, 0, none⟩)] w (fun en w' => (∃ b' rv, (val (some b)).1 = some b' ∧ en = .returned rv ∧ rv.oneCell' = true ∧ Sat G (rowD (val (some b)).2 rv :: wrd q b' 0 :: capC p1 p2 q n :: M) w') ∨
   ((val (some b)).1 = none ∧ ∃ ee b1, ee ≠ 0 ∧ en = pnE ee ∧ Sat G (wrd q b1 0 :: capC p1 p2 q n :: M) w'))) :
  Calls Tryz.prog 163 #[.pointer (some ⟨q, 0, none⟩), .func (.func F) #[] #[.pointer (some ⟨p1, 0, none⟩), .pointer (some ⟨p2, 0, none⟩)]] w (Ret fun r w' => Sat G (row 5 1 r (val s).2.length (bys (val s).2) :: wrdS q (val s).1 :: L) w') := by
 cases s with
 | none =>
  refine Calls.mono (ct_wire_readX_byte hw) fun en w' ⟨r, hr, h1, h2⟩ => ⟨r, hr, ?_⟩
  rw [hv0, h1]
  exact row_nil h2.swap1 5 1
 | some b =>
  refine Calls.mono (ct_wire_read_byte (D := rowD (val (some b)).2) (caps := [.pointer (some ⟨p1, 0, none⟩), .pointer (some ⟨p2, 0, none⟩)]) (out := (val (some b)).1) hw hF (fun M w hw => hdo b M w rfl hw)) fun en w' ⟨r, hr, h⟩ => ⟨r, hr, ?_⟩
  rcases h with ⟨b', h1, h2⟩ | ⟨h1, h2, h3⟩
  ·rw [h1]
   exact h2.swap2
  rw [hvn b h1, h1, h2]
  exact row_nil h3.swap1 5 1
theorem rawS_none (n : Nat) (b : Bys) (h : (rawS n (some b)).1 = none) : (rawS n (some b)).2 = [] := by
 by_cases hn : n ≤ b.length
 ·simp [rawS, hn] at h
 simp [rawS, hn]
theorem shortS_none (n : Nat) (b : Bys) (h : (shortS n (some b)).1 = none) : (shortS n (some b)).2 = [] := by
 cases b with
 | nil => rfl
 | cons x r =>
  by_cases hn : x.toNat ≤ n ∧ x.toNat ≤ r.length
  ·simp [shortS, hn] at h
  simp only [shortS, if_neg hn]
theorem ct_wire_RawS {n : Nat} {s : RdS} (hw : Sat G (wrdS q s :: L) w) (hl : ∀ b, s = some b → b.length ≤ 1000000000000) (hn : n ≤ 1000000000001) : Calls Tryz.prog 167 #[.pointer (some ⟨q, 0, none⟩), .int .i64 n] w (Ret fun r w' => Sat G (row 5 1 r (rawS n s).2.length (bys (rawS n s).2) :: wrdS q (rawS n s).1 :: L) w') := by
 refine calls_of_x (args := [_, _]) Tryz.func167 rfl Tryz.ntmps167 rfl rfl ?_
 refine x_seq ?_
 refine x_region rfl ?_
 refine x_box rfl rfl trivial rfl rfl hw rfl (fun w b2 hw => ?_)
 refine x_box rfl rfl trivial rfl rfl hw rfl (fun w b3 hw => ?_)
 refine x_as rfl rfl trivial rfl ?_
 refine xl_nil ?_
 refine x_seq ?_
 refine x_region rfl ?_
 refine x_ld rfl rfl trivial rfl (Loads.blk1 (v := .pointer (some ⟨q, 0, none⟩)) one_p_wire_Reader hw pK rfl) ?_
 refine x_mkf (v1 := #[]) (v2 := #[.pointer (some ⟨b2, 0, none⟩), .pointer (some ⟨b3, 0, none⟩)]) rfl rfl trivial (by intro z hz; simp at hz; rcases hz with rfl | rfl <;> exact ⟨_, rfl⟩) (by simp) (by simp only [List.map_toArray, List.map_cons, List.map_nil]; rfl) ?_
 have hw := (Sat.both_in (M := [blk b2 _ _, blk b3 _ _]) (hw.bring (As := [blk b2 _ _, blk b3 _ _]) bR)).bring (As := [wrdS q s]) bR
 refine x_call rfl rfl trivial cal_wire_read_byte rfl (rd_bytes (rawS n) rfl (rawS_none n) hw cal_wire_Reader_Raw_1 (fun b M w hs hw => ct_Raw_1 hw (hl b hs) hn)) rfl (fun w v7 hv => ?_)
 have hw := hv
 refine x_as rfl rfl trivial rfl ?_
 refine xl_nil ?_
 refine x_ret ?_
 exact end1 rfl rfl rfl (hw)
theorem ct_wire_ShortS {n : Nat} {s : RdS} (hw : Sat G (wrdS q s :: L) w) (hl : ∀ b, s = some b → b.length ≤ 1000000000000) : Calls Tryz.prog 98 #[.pointer (some ⟨q, 0, none⟩), .int .i64 n] w (Ret fun r w' => Sat G (row 5 1 r (shortS n s).2.length (bys (shortS n s).2) :: wrdS q (shortS n s).1 :: L) w') := by
 refine calls_of_x (args := [_, _]) Tryz.func98 rfl Tryz.ntmps98 rfl rfl ?_
 refine x_seq ?_
 refine x_region rfl ?_
 refine x_box rfl rfl trivial rfl rfl hw rfl (fun w b2 hw => ?_)
 refine x_box rfl rfl trivial rfl rfl hw rfl (fun w b3 hw => ?_)
 refine x_as rfl rfl trivial rfl ?_
 refine xl_nil ?_
 refine x_seq ?_
 refine x_region rfl ?_
 refine x_ld rfl rfl trivial rfl (Loads.blk1 (v := .pointer (some ⟨q, 0, none⟩)) one_p_wire_Reader hw pK rfl) ?_
 refine x_mkf (v1 := #[]) (v2 := #[.pointer (some ⟨b2, 0, none⟩), .pointer (some ⟨b3, 0, none⟩)]) rfl rfl trivial (by intro z hz; simp at hz; rcases hz with rfl | rfl <;> exact ⟨_, rfl⟩) (by simp) (by simp only [List.map_toArray, List.map_cons, List.map_nil]; rfl) ?_
 have hw := (Sat.both_in (M := [blk b2 _ _, blk b3 _ _]) (hw.bring (As := [blk b2 _ _, blk b3 _ _]) bR)).bring (As := [wrdS q s]) bR
 refine x_call rfl rfl trivial cal_wire_read_byte rfl (rd_bytes (shortS n) rfl (shortS_none n) hw cal_wire_Reader_Short_1 (fun b M w hs hw => ct_Short_1 hw (hl b hs))) rfl (fun w v7 hv => ?_)
 have hw := hv
 refine x_as rfl rfl trivial rfl ?_
 refine xl_nil ?_
 refine x_ret ?_
 exact end1 rfl rfl rfl (hw)
theorem wrdS_open {s : RdS} (hw : Sat G (wrdS q s :: L) w) : ∃ (e : Int) (a : Option Addr) (m c : Nat) (M : List Assn), (e ≠ 0 ↔ s = none) ∧ (∀ b, s = some b → m = b.length) ∧ (∀ w, Sat G (blk q [.slice a m c, .int .i64 e] 177 :: M) w → Sat G (wrdS q s :: L) w) ∧ Sat G (blk q [.slice a m c, .int .i64 e] 177 :: M) w := by
 cases s with
 | some b =>
  obtain ⟨v, v0, b0, kv, hp, hw⟩ := wrd_open hw
  obtain ⟨a, cap, rfl⟩ := (((kv L).of sF).at hw).form
  exact ⟨0, a, b.length, cap, _, by simp, fun b' h => by cases h; rfl, fun w h => wrd_shut kv hp h, hw⟩
 | none =>
  obtain ⟨er, her, hw⟩ := wrdE_out hw
  obtain ⟨v, h⟩ := hw.ex_out
  obtain ⟨⟨a, m, c, rfl⟩, hw⟩ := h.lift_out
  exact ⟨er, a, m, c, _, by simp [her], (fun b' h => by cases h), fun w h => wrdE_in her (Sat.ex_in (.slice a m c) (Sat.lift_in ⟨_, _, _, rfl⟩ h)), hw⟩
theorem ct_wire_ErrS {s : RdS} (hw : Sat G (wrdS q s :: L) w) : Calls Tryz.prog 100 #[.pointer (some ⟨q, 0, none⟩)] w (Ret fun r w' => ∃ e : Int, r = .int .i64 e ∧ (e ≠ 0 ↔ s = none) ∧ Sat G (wrdS q s :: L) w') := by
 obtain ⟨e, a, m, c, M, hes, hm, hcl, hw⟩ := wrdS_open hw
 refine calls_of_x (args := [_]) Tryz.func100 rfl Tryz.ntmps100 rfl rfl ?_
 refine x_seq ?_
 refine x_region rfl ?_
 refine x_as rfl rfl trivial rfl ?_
 refine xl_nil ?_
 refine x_seq ?_
 refine x_region rfl ?_
 refine x_mv rfl rfl trivial rfl ?_
 refine x_nc rfl rfl trivial rfl ?_
 refine x_fld rfl rfl trivial fo_wire_Reader_1 rfl ?_
 refine x_ld rfl rfl trivial rfl (Loads.blk1 (v := .int .i64 e) one_api_Errno hw pK rfl) ?_
 refine x_as rfl rfl trivial rfl ?_
 refine xl_nil ?_
 refine x_ret ?_
 exact end1 rfl rfl rfl ⟨e, rfl, hes, hcl _ hw⟩
theorem ct_wire_LeftS {s : RdS} (hw : Sat G (wrdS q s :: L) w) : Calls Tryz.prog 166 #[.pointer (some ⟨q, 0, none⟩)] w (Ret fun r w' => ∃ m : Nat, r = .int .i64 m ∧ (∀ b, s = some b → m = b.length) ∧ Sat G (wrdS q s :: L) w') := by
 obtain ⟨e, a, m, c, M, hes, hm, hcl, hw⟩ := wrdS_open hw
 refine calls_of_x (args := [_]) Tryz.func166 rfl Tryz.ntmps166 rfl rfl ?_
 refine x_seq ?_
 refine x_region rfl ?_
 refine x_as rfl rfl trivial rfl ?_
 refine xl_nil ?_
 refine x_seq ?_
 refine x_region rfl ?_
 refine x_mv rfl rfl trivial rfl ?_
 refine x_nc rfl rfl trivial rfl ?_
 refine x_fld rfl rfl trivial fo_wire_Reader_0 rfl ?_
 refine x_ld rfl rfl trivial rfl (Loads.blk1 (v := .slice a m c) one_sl_uint8 hw pK rfl) ?_
 refine x_len rfl rfl trivial (by kernel_rfl) U_sl_uint8 rfl ?_
 refine x_as rfl rfl trivial rfl ?_
 refine xl_nil ?_
 refine x_ret ?_
 exact end1 rfl rfl rfl ⟨m, rfl, hm, hcl _ hw⟩
theorem ct_wire_EndS {s : RdS} (hw : Sat G (wrdS q s :: L) w) : Calls Tryz.prog 46 #[.pointer (some ⟨q, 0, none⟩)] w (Ret fun r w' => ∃ e : Int, r = .int .i64 e ∧ (e = 0 ↔ s = some []) ∧ Sat G (wrdS q s :: L) w') := by
 obtain ⟨e, a, m, c, M, hes, hm, hcl, hw⟩ := wrdS_open hw
 refine calls_of_x (args := [_]) Tryz.func46 rfl Tryz.ntmps46 rfl rfl ?_
 refine x_seq ?_
 refine x_region rfl ?_
 refine x_as rfl rfl trivial rfl ?_
 refine xl_nil ?_
 refine x_seq ?_
 refine x_seq ?_
 refine x_region rfl ?_
 refine x_mv rfl rfl trivial rfl ?_
 refine x_nc rfl rfl trivial rfl ?_
 refine x_fld rfl rfl trivial fo_wire_Reader_1 rfl ?_
 refine x_ld rfl rfl trivial rfl (Loads.blk1 (v := .int .i64 e) one_api_Errno hw pK rfl) ?_
 refine x_eq rfl rfl trivial (by kernel_rfl) rfl rfl ?_
 refine x_mv rfl rfl trivial rfl ?_
 refine xl_split (d := 8) rfl (fun h1 => ?_) (fun h1 => ?_)
 ·
  refine x_mv rfl rfl ⟨_, rfl, rfl⟩ rfl ?_
  refine x_nc rfl rfl ⟨_, rfl, rfl⟩ rfl ?_
  refine x_fld rfl rfl ⟨_, rfl, rfl⟩ fo_wire_Reader_0 rfl ?_
  refine x_ld rfl rfl ⟨_, rfl, rfl⟩ rfl (Loads.blk1 (v := .slice a m c) one_sl_uint8 hw pK rfl) ?_
  refine x_len rfl rfl ⟨_, rfl, rfl⟩ (by kernel_rfl) U_sl_uint8 rfl ?_
  refine x_gt rfl rfl ⟨_, rfl, rfl⟩ rfl rfl ?_
  refine x_pickT rfl rfl trivial rfl rfl rfl ?_
  refine xl_nil ?_
  refine x_if rfl (fun h2 => ?_) (fun h2 => ?_)
  ·
   refine x_seq ?_
   refine x_region rfl ?_
   refine x_as rfl rfl trivial rfl ?_
   refine xl_nil ?_
   refine x_ret ?_
   exact end1 rfl rfl rfl ⟨3, rfl, ⟨fun h => (by cases h), fun h => by have := hm _ h; simp only [List.length_nil] at this; omega⟩, hcl _ hw⟩
  refine x_skip ?_
  refine x_seq ?_
  refine x_region rfl ?_
  refine x_mv rfl rfl trivial rfl ?_
  refine x_nc rfl rfl trivial rfl ?_
  refine x_fld rfl rfl trivial fo_wire_Reader_1 rfl ?_
  refine x_ld rfl rfl trivial rfl (Loads.blk1 (v := .int .i64 e) one_api_Errno hw pK rfl) ?_
  refine x_as rfl rfl trivial rfl ?_
  refine xl_nil ?_
  refine x_ret ?_
  exact end1 rfl rfl rfl (by
 refine ⟨e, rfl, ⟨fun _ => ?_, fun _ => h1⟩, hcl _ hw⟩
 cases s with
 | none => exact absurd h1 (hes.2 rfl)
 | some b =>
  have := hm b rfl
  have : b = [] := List.eq_nil_of_length_eq_zero (by omega)
  rw [this])
 refine xl_no rfl rfl rfl rfl rfl rfl ?_
 refine xl_no rfl rfl rfl rfl rfl rfl ?_
 refine xl_no rfl rfl rfl rfl rfl rfl ?_
 refine xl_no rfl rfl rfl rfl rfl rfl ?_
 refine xl_no rfl rfl rfl rfl rfl rfl ?_
 refine xl_no rfl rfl rfl rfl rfl rfl ?_
 refine x_pickF rfl rfl trivial rfl rfl rfl ?_
 refine xl_nil ?_
 refine x_cond_false rfl ?_
 refine x_skip ?_
 refine x_seq ?_
 refine x_region rfl ?_
 refine x_mv rfl rfl trivial rfl ?_
 refine x_nc rfl rfl trivial rfl ?_
 refine x_fld rfl rfl trivial fo_wire_Reader_1 rfl ?_
 refine x_ld rfl rfl trivial rfl (Loads.blk1 (v := .int .i64 e) one_api_Errno hw pK rfl) ?_
 refine x_as rfl rfl trivial rfl ?_
 refine xl_nil ?_
 refine x_ret ?_
 exact end1 rfl rfl rfl ⟨e, rfl, ⟨fun h => absurd h h1, fun h => by rw [h] at hes; exact Decidable.byContradiction fun hn => by cases hes.1 hn⟩, hcl _ hw⟩
end
theorem getS_lt (n : Nat) (s : RdS) : (getS n s).2 < 256 ^ n := by
 cases s with
 | none => exact Nat.pow_pos (by decide)
 | some b =>
  simp only [getS]
  split
  ·exact leN_lt' (by rw [List.length_take]; omega)
  exact Nat.pow_pos (by decide)
theorem getS_pos {n : Nat} {s : RdS} (h : 0 < (getS n s).2) : ∃ b, s = some b ∧ n ≤ b.length ∧ (getS n s).1 = some (b.drop n) := by
 cases s with
 | none => exact absurd h (Nat.lt_irrefl 0)
 | some b =>
  simp only [getS] at h ⊢
  split at h
  ·rename_i hn; exact ⟨b, rfl, hn, by rw [if_pos hn]⟩
  exact absurd h (Nat.lt_irrefl 0)
def LeS (N : Nat) (s : RdS) : Prop := ∀ b, s = some b → b.length ≤ N
theorem getS_le {N n : Nat} {s : RdS} (h : LeS N s) : LeS N (getS n s).1 := fun b hb => by
 cases s with
 | none => cases hb
 | some c =>
  simp only [getS] at hb
  split at hb
  ·cases hb; rw [List.length_drop]; have := h c rfl; omega
  cases hb
theorem rawS_le {N n : Nat} {s : RdS} (h : LeS N s) : LeS N (rawS n s).1 := fun b hb => by
 cases s with
 | none => cases hb
 | some c =>
  simp only [rawS] at hb
  split at hb
  ·cases hb; rw [List.length_drop]; have := h c rfl; omega
  cases hb
theorem shortS_le {N n : Nat} {s : RdS} (h : LeS N s) : LeS N (shortS n s).1 := fun b hb => by
 cases s with
 | none => cases hb
 | some c =>
  cases c with
  | nil => cases hb
  | cons x r =>
   simp only [shortS] at hb
   split at hb
   ·cases hb; rw [List.length_drop]; have := h _ rfl; simp only [List.length_cons] at this; omega
   cases hb
theorem valS_le {N : Nat} {s : RdS} (h : LeS N s) : LeS N (valS s).1 := by
 unfold valS
 split
 ·exact rawS_le (getS_le h)
 exact fun b hb => by cases hb
theorem valD_le {N : Nat} {s : RdS} (h : LeS N s) : LeS N (valD s).1 := rawS_le (getS_le h)
theorem rawS_len {n : Nat} {s : RdS} : (rawS n s).2.length ≤ n := by
 cases s with
 | none => exact Nat.zero_le _
 | some b =>
  simp only [rawS]
  split
  ·rw [List.length_take]; omega
  exact Nat.zero_le _
theorem shortS_len {n : Nat} {s : RdS} : (shortS n s).2.length ≤ 255 := by
 cases s with
 | none => exact Nat.zero_le _
 | some b =>
  cases b with
  | nil => exact Nat.zero_le _
  | cons x r =>
   simp only [shortS]
   split
   ·rw [List.length_take]; have := x.toNat_lt; omega
   exact Nat.zero_le _
theorem valS_len {s : RdS} : (valS s).2.length ≤ 65535 := by
 unfold valS
 split
 ·have := rawS_len (n := (getS 2 s).2) (s := (getS 2 s).1); have := getS_lt 2 s; omega
 exact Nat.zero_le _
theorem valD_len {s : RdS} : (valD s).2.length ≤ 65535 := by
 unfold valD
 have := rawS_len (n := (getS 2 s).2) (s := (getS 2 s).1); have := getS_lt 2 s; omega
def mkC (m : Mk) : List Value := [.int .i64 (m.items : Nat), .int .i64 (m.bytes : Nat), .int .u32 (m.sum : Nat)]
section
variable {G : Gh} {L R : List Assn} {w : World} {q : Nat} {b : Bys}
theorem ct_get32 (hw : Sat G (wrd q b 0 :: L) w) (hn : 4 ≤ b.length) (hl : b.length ≤ 1000000000000) : Calls Tryz.prog 40 #[.pointer (some ⟨q, 0, none⟩)] w (Ret fun r w' => r = .int .u32 (leN (b.take 4) : Nat) ∧ Sat G (wrd q (b.drop 4) 0 :: L) w') := by
 have h := ct_wire_GetS_uint32 (s := some b) hw (fun c hc => by cases hc; exact hl)
 rwa [show getS 4 (some b) = (some (b.drop 4), leN (b.take 4)) by simp [getS, hn]] at h
theorem ct_get8 (hw : Sat G (wrd q b 0 :: L) w) (hn : 1 ≤ b.length) (hl : b.length ≤ 1000000000000) : Calls Tryz.prog 43 #[.pointer (some ⟨q, 0, none⟩)] w (Ret fun r w' => r = .int .u8 (leN (b.take 1) : Nat) ∧ Sat G (wrd q (b.drop 1) 0 :: L) w') := by
 have h := ct_wire_GetS_uint8 (s := some b) hw (fun c hc => by cases hc; exact hl)
 rwa [show getS 1 (some b) = (some (b.drop 1), leN (b.take 1)) by simp [getS, hn]] at h
theorem ct_stream_value {s : RdS} (hw : Sat G (wrdS q s :: L) w) (hl : LeS 1000000000000 s) : Calls Tryz.prog 99 #[.agg #[.pointer (some ⟨q, 0, none⟩)]] w (Ret fun r w' => Sat G (row 5 1 r (valS s).2.length (bys (valS s).2) :: wrdS q (valS s).1 :: L) w') := by
 have hn16 : (getS 2 s).2 < 65536 := getS_lt 2 s
 have hl2 := getS_le (n := 2) hl
 refine calls_of_x (args := [_]) Tryz.func99 rfl Tryz.ntmps99 rfl rfl ?_
 refine x_seq ?_
 refine x_region rfl ?_
 refine x_box rfl rfl trivial rfl rfl hw rfl (fun w b1 hw => ?_)
 refine x_as rfl rfl trivial rfl ?_
 refine xl_nil ?_
 refine x_seq ?_
 refine x_region rfl ?_
 refine x_fld rfl rfl trivial fo_stream_reader_0 rfl ?_
 refine x_ld rfl rfl trivial rfl (Loads.blk1 (v := .pointer (some ⟨q, 0, none⟩)) one_p_wire_Reader hw pK rfl) ?_
 refine x_call rfl rfl trivial cal_wire_Get_uint16 rfl (ct_wire_GetS_uint16 (hw.bring (As := [wrdS q s]) bR) hl) rfl (fun w v6 hv => ?_)
 obtain ⟨rfl, hw⟩ := hv
 refine x_convE (v := ((getS 2 s).2 : Nat)) rfl rfl trivial (by kernel_rfl) U_uint16 U_int rfl (wrap64 (by omega)) ?_
 refine x_as rfl rfl trivial rfl ?_
 refine xl_nil ?_
 refine x_seq ?_
 refine x_seq ?_
 refine x_region rfl ?_
 refine x_mv rfl rfl trivial rfl ?_
 refine x_gt rfl rfl trivial rfl rfl ?_
 refine xl_nil ?_
 refine x_if rfl (fun h1 => ?_) (fun h1 => ?_)
 ·
  obtain ⟨b0, hs, hb2, hgs⟩ := getS_pos (n := 2) (s := s) (by omega)
  have hlb := hl b0 hs
  rw [hgs] at hw
  refine x_region rfl ?_
  refine x_fld rfl rfl trivial fo_stream_reader_0 rfl ?_
  refine x_ld rfl rfl trivial rfl (Loads.blk1 (v := .pointer (some ⟨q, 0, none⟩)) one_p_wire_Reader hw pK rfl) ?_
  refine x_call rfl rfl trivial cal_wire_Reader_Left rfl (ct_wire_LeftS (s := some (b0.drop 2)) hw) rfl (fun w v12 hv => ?_)
  obtain ⟨m, rfl, hm, hw⟩ := hv
  obtain rfl := hm _ rfl
  have hdl : (b0.drop 2).length = b0.length - 2 := List.length_drop
  refine x_addi rfl rfl trivial rfl rfl (by omega) ?_
  refine x_as rfl rfl trivial rfl ?_
  refine xl_nil ?_
  refine x_seq ?_
  refine x_region rfl ?_
  refine x_fld rfl rfl trivial fo_stream_reader_0 rfl ?_
  refine x_ld rfl rfl trivial rfl (Loads.blk1 (v := .pointer (some ⟨q, 0, none⟩)) one_p_wire_Reader hw pK rfl) ?_
  refine x_mv rfl rfl trivial rfl ?_
  refine x_call rfl rfl trivial cal_wire_Reader_Raw rfl (ct_wire_RawS (n := (b0.drop 2).length + 1) (s := some (b0.drop 2)) hw (fun c hc => by cases hc; omega) (by omega)) rfl (fun w v17 hv => ?_)
  have hw := hv
  rw [show rawS ((b0.drop 2).length + 1) (some (b0.drop 2)) = (none, []) by simp [rawS]] at hw
  refine x_as rfl rfl trivial rfl ?_
  refine xl_nil ?_
  refine x_ret ?_
  exact end1 rfl rfl rfl (by
 have e : valS s = (none, []) := by unfold valS; rw [if_neg (by omega)]
 rw [e]
 exact hw.swap2)
 refine x_skip ?_
 refine x_seq ?_
 refine x_region rfl ?_
 refine x_fld rfl rfl trivial fo_stream_reader_0 rfl ?_
 refine x_ld rfl rfl trivial rfl (Loads.blk1 (v := .pointer (some ⟨q, 0, none⟩)) one_p_wire_Reader hw pK rfl) ?_
 refine x_mv rfl rfl trivial rfl ?_
 refine x_call rfl rfl trivial cal_wire_Reader_Raw rfl (ct_wire_RawS (n := (getS 2 s).2) (s := (getS 2 s).1) hw hl2 (by omega)) rfl (fun w v17 hv => ?_)
 have hw := hv
 refine x_as rfl rfl trivial rfl ?_
 refine xl_nil ?_
 refine x_ret ?_
 exact end1 rfl rfl rfl (by
 have e : valS s = rawS (getS 2 s).2 (getS 2 s).1 := by unfold valS; rw [if_pos (by omega)]
 rw [e]
 exact hw.swap2)
theorem ct_stream_mark (hw : Sat G (wrd q b 0 :: L) w) (hn : 12 ≤ b.length) (hl : b.length ≤ 1000000000000) : Calls Tryz.prog 44 #[.agg #[.pointer (some ⟨q, 0, none⟩)]] w (Ret fun r w' => r = .tuple #[.agg (mkC (markP b)).toArray, .bool (decide (markOk (markP b)))] ∧ Sat G (wrd q (b.drop 12) 0 :: L) w') := by
 have g1 : leN (b.take 4) < 256 ^ 4 := leN_lt' (by rw [List.length_take]; omega)
 have g2 : leN ((b.drop 4).take 4) < 256 ^ 4 := leN_lt' (by rw [List.length_take]; omega)
 refine calls_of_x (args := [_]) Tryz.func44 rfl Tryz.ntmps44 rfl rfl ?_
 refine x_seq ?_
 refine x_region rfl ?_
 refine x_box rfl rfl trivial rfl rfl hw rfl (fun w b1 hw => ?_)
 refine x_alloc rfl rfl trivial z_api_Mark hw rfl (fun w b2 hw => ?_)
 refine x_as rfl rfl trivial rfl ?_
 refine xl_nil ?_
 refine x_seq ?_
 refine x_draw [0, 1, 3, 4, 2, 5, 6, 7] mixed (by kernel_rfl) ?_
 replace hw := hw.drawn (w.drawn + 1)
 refine x_fld rfl rfl trivial fo_stream_reader_0 rfl ?_
 refine x_ld rfl rfl trivial rfl (Loads.blk1 (v := .pointer (some ⟨q, 0, none⟩)) one_p_wire_Reader hw pK rfl) ?_
 refine x_fld rfl rfl trivial fo_stream_reader_0 rfl ?_
 refine x_ld rfl rfl trivial rfl (Loads.blk1 (v := .pointer (some ⟨q, 0, none⟩)) one_p_wire_Reader hw pK rfl) ?_
 refine x_callP rfl rfl trivial cal_wire_Get_uint32 rfl (ct_get32 (hw.bring (As := [wrd q b 0]) bR) (by omega) hl) (fun w v8 hv q' hq => ?_) (fun w v8 hv => ?_)
 ·
  obtain ⟨rfl, hw⟩ := hv
  have hq := pend_mem (l := [4]) (by kernel_rfl) hq
  simp only [List.mem_cons, List.not_mem_nil, or_false] at hq
  subst hq
  exact chk_ld rfl rfl rfl (Loads.blk1 (v := .pointer (some ⟨q, 0, none⟩)) one_p_wire_Reader hw pK rfl)
 obtain ⟨rfl, hw⟩ := hv
 refine x_call rfl rfl trivial cal_wire_Get_uint32 rfl (ct_get32 hw (by rw [List.length_drop]; omega) (by rw [List.length_drop]; omega)) (by kernel_rfl) (fun w v11 hv => ?_)
 obtain ⟨rfl, hw⟩ := hv
 rw [List.drop_drop] at hw
 refine x_as rfl rfl trivial rfl ?_
 refine x_as rfl rfl trivial rfl ?_
 refine xl_nil ?_
 refine x_seq ?_
 refine x_region rfl ?_
 refine x_mv rfl rfl trivial rfl ?_
 refine x_convE (v := (leN (b.take 4) : Nat)) rfl rfl trivial (by kernel_rfl) U_uint32 U_int rfl (wrap64 (by omega)) ?_
 refine x_mv rfl rfl trivial rfl ?_
 refine x_convE (v := (leN ((b.drop 4).take 4) : Nat)) rfl rfl trivial (by kernel_rfl) U_uint32 U_int rfl (wrap64 (by omega)) ?_
 refine x_fld rfl rfl trivial fo_stream_reader_0 rfl ?_
 refine x_ld rfl rfl trivial rfl (Loads.blk1 (v := .pointer (some ⟨q, 0, none⟩)) one_p_wire_Reader hw pK rfl) ?_
 refine x_call rfl rfl trivial cal_wire_Get_uint32 rfl (ct_get32 hw (by rw [List.length_drop]; omega) (by rw [List.length_drop]; omega)) rfl (fun w v18 hv => ?_)
 obtain ⟨rfl, hw⟩ := hv
 rw [List.drop_drop] at hw
 refine x_build (v := .agg (mkC (markP b)).toArray) rfl rfl trivial rfl (fun w => by kernel_rfl) ?_
 refine x_mv rfl rfl trivial rfl ?_
 refine x_le rfl rfl trivial rfl rfl ?_
 refine x_mv rfl rfl trivial rfl ?_
 refine xl_and (l1 := [11, 12, 13]) (l2 := [14, 15]) rfl (d := 25) ((leN (b.take 4) : Nat) ≤ (2147483647 : Int) ∧ (leN ((b.drop 4).take 4) : Nat) ≤ (2147483647 : Int)) rfl ?_ ?_
 ·
  refine xl_split (d := 22) rfl (fun h1 => ?_) (fun h1 => ?_)
  ·
   refine x_mv rfl rfl ⟨_, rfl, rfl⟩ rfl ?_
   refine x_le rfl rfl ⟨_, rfl, rfl⟩ rfl rfl ?_
   refine x_pickT rfl rfl trivial rfl rfl rfl ?_
   refine xl_nil ?_
   refine ⟨rfl, congrArg some (congrArg Value.bool ?_)⟩
   first | exact (decide_eq_false (by omega)).symm | exact (decide_eq_true (by omega)).symm | exact decide_eq_decide.2 (by omega)
  refine xl_no rfl rfl rfl rfl rfl rfl ?_
  refine xl_no rfl rfl rfl rfl rfl rfl ?_
  refine x_pickF rfl rfl trivial rfl rfl rfl ?_
  refine xl_nil ?_
  refine ⟨rfl, congrArg some (congrArg Value.bool ?_)⟩
  first | exact (decide_eq_false (by omega)).symm | exact (decide_eq_true (by omega)).symm | exact decide_eq_decide.2 (by omega)
 refine x_stN (cs := mkC (markP b)) (l' := mkC (markP b)) rfl trivial rfl rfl many_api_Mark rfl (by intro u hu; simp [mkC] at hu; rcases hu with rfl | rfl | rfl <;> rfl) hw pK (by simp [mkC]) rfl rfl (fun w hw => ?_)
 refine x_as rfl rfl trivial rfl ?_
 refine xl_nil ?_
 refine x_ret ?_
 exact end2 rfl rfl ⟨_, rfl, (Loads.blkA (l := mkC (markP b)) many_api_Mark hw pK rfl)⟩ rfl ⟨congrArg (fun z => Value.tuple #[.agg (mkC (markP b)).toArray, .bool z]) (decide_eq_decide.2 (by
  show ((leN (b.take 4) : Nat) : Int) ≤ 2147483647 ∧ ((leN ((b.drop 4).take 4) : Nat) : Int) ≤ 2147483647 ↔ leN (b.take 4) ≤ 2147483647 ∧ leN ((b.drop 4).take 4) ≤ 2147483647
  omega)), (hw.bring (As := [blk b2 _ _, blk b1 _ _]) bR).tail.tail⟩
end
section
variable {P : Program} {n : Nat} {ops : Array Oper} {dr : Bool} {done r : List Nat} {K : Env → World → Prop} {e : Env} {w w0 : World} {i d : Nat} {t : TypeId} {p : String} {af : Array Edge} {g : Option (Nat × Bool)} {s c : TypeId} {x : Operand} {b : Bys}
theorem x_cutBB {bb len cap : Nat} {lo hi : Int} {kl kh : IntKind} {l h' : Operand} (ho : ops[i]? = some ⟨some d, .slice s x (some l) (some h') none, t, p, af, g⟩) (hd : Nat.blt d n = true) (hg : Gd ops e g) (hs : P.underlying s = some (.slice c)) (hz : (P.info? c).map (·.size) = some 1)
  (hx : ev e x = some (.slice (some ⟨bb, 0, none⟩) len cap)) (hl : ev e l = some (.int kl lo)) (hh : ev e h' = some (.int kh hi)) (hk : SlB (.slice (some ⟨bb, 0, none⟩) len cap) b w0) (hb : 0 ≤ lo ∧ lo ≤ hi ∧ hi ≤ b.length)
  (h : ∀ v', (∀ w, SlB (.slice (some ⟨bb, 0, none⟩) len cap) b w → SlB v' ((b.drop lo.toNat).take (hi.toNat - lo.toNat)) w) → XL P n ops dr (i :: done) r K ((d, v') :: e) w) : XL P n ops dr done (i :: r) K e w := by
 obtain ⟨h1, h2, -⟩ := hk.inv
 subst h1
 by_cases hlc : lo < cap
 ·refine x_cut ho hd hg hs hz hx hl hh ⟨hb.1, hb.2.1, by omega⟩ hlc (h _ fun w hw => ?_)
  rcases hw with ⟨⟨a, e1⟩, e2⟩ | ⟨b', o', cap', e1, e2, e3⟩
  ·subst e2
   have : lo.toNat = 0 := by simp at hb; omega
   have : hi.toNat = 0 := by simp at hb; omega
   simp only [List.drop_nil, List.take_nil]
   refine .inr ⟨bb, 0 + lo.toNat * 1, cap - lo.toNat, by simp [*], Nat.zero_le _, fun j u hj => by simp [bys] at hj⟩
  cases e1
  have hll : ((b.drop lo.toNat).take (hi.toNat - lo.toNat)).length = hi.toNat - lo.toNat := by rw [List.length_take, List.length_drop]; omega
  refine .inr ⟨bb, 0 + lo.toNat * 1, cap - lo.toNat, by rw [hll], by rw [hll]; omega, ?_⟩
  rw [bys_take, Nat.mul_one]
  exact (SlB.rdd (Or.inr ⟨bb, 0, cap, rfl, e2, e3⟩) lo.toNat).take _
 have hlo : lo = cap := by omega
 have hhi : hi = lo := by omega
 have hlb : b.length = cap := by omega
 subst hhi
 have he : (b.drop hi.toNat).take (hi.toNat - hi.toNat) = [] := by rw [Nat.sub_self, List.take_zero]
 refine xl_pure ho (by simpa [dstOk] using hd) hg (ρ := rh e) (by intro z hZ; simp [Op.operands] at hZ; exact oh3 hx hl hh hZ) rfl (v := .slice (some ⟨bb, 0, none⟩) 0 0) (fun w' => ?_) (h _ fun w hw => by rw [he]; exact .inl ⟨⟨_, rfl⟩, rfl⟩)
 cases hi' : P.info? c with
 | none => simp [hi'] at hz
 | some inf =>
  have g1 := run_bound (P := P) (k := kh) (v := hi) (y := cap) (c := .sliceAcap) ⟨by omega, by omega⟩ w'
  have g2 := run_bound (P := P) (k := kl) (v := hi) (y := hi.toNat) (c := .sliceB) ⟨by omega, by omega⟩ w'
  have hc : hi.toNat = cap := by omega
  rw [hc] at g2
  simp [execOp, rh_of hx, rh_of hl, rh_of hh, Instr.sliceAt, Instr.slice, Instr.sliceBounds, run_underlying hs, g1, g2, sizeOf, typeInfo, hi', hc]
end
def rdD (q : Nat) (b : Bys) (k : Nat) (er : Int) : Assn := ex fun v : Value => both [blk q [v, .int .i64 k, .int .i64 er] 127, row 5 1 v b.length (bys b)]
def rdE (q : Nat) : Assn := ex fun x : Value × Value × Int => lift (x.2.2 ≠ 0) (blk q [x.1, x.2.1, .int .i64 x.2.2] 127)
def rdS (q : Nat) : RdS → Assn
 | some c => ex fun x : Bys × Nat => lift (c = x.1.drop x.2 ∧ x.2 ≤ x.1.length ∧ 0 < x.1.length ∧ x.1.length ≤ 1000000000) (rdD q x.1 x.2 0)
 | none => rdE q
theorem getS_raw (n : Nat) (s : RdS) : getS n s = ((rawS n s).1, leN (rawS n s).2) := by
 cases s with
 | none => rfl
 | some b =>
  simp only [getS, rawS]
  split <;> rfl
section
variable {G : Gh} {L R : List Assn} {w : World} {q : Nat} {b : Bys} {er : Int}
theorem rdD_open {k : Nat} (hw : Sat G (rdD q b k er :: R) w) : ∃ v, Sat G (blk q [v, .int .i64 k, .int .i64 er] 127 :: row 5 1 v b.length (bys b) :: R) w := by
 obtain ⟨v, h⟩ := hw.ex_out
 exact ⟨v, h.both_out⟩
theorem rdD_shut {k : Nat} {v : Value} (hw : Sat G (blk q [v, .int .i64 k, .int .i64 er] 127 :: row 5 1 v b.length (bys b) :: R) w) : Sat G (rdD q b k er :: R) w :=
 Sat.ex_in v (Sat.both_in (M := [blk q [v, .int .i64 k, .int .i64 er] 127, row 5 1 v b.length (bys b)]) hw)
theorem rdE_in {v u : Value} (h : er ≠ 0) (hw : Sat G (blk q [v, u, .int .i64 er] 127 :: R) w) : Sat G (rdE q :: R) w := Sat.ex_in (v, u, er) (Sat.lift_in h hw)
theorem rdE_out (hw : Sat G (rdE q :: R) w) : ∃ v u er, er ≠ 0 ∧ Sat G (blk q [v, u, .int .i64 er] 127 :: R) w := by
 obtain ⟨x, h⟩ := hw.ex_out
 obtain ⟨h1, h⟩ := h.lift_out
 exact ⟨x.1, x.2.1, x.2.2, h1, h⟩
theorem rdS_out {c : Bys} (hw : Sat G (rdS q (some c) :: R) w) : ∃ b k a cap, c = b.drop k ∧ k ≤ b.length ∧ 0 < b.length ∧ b.length ≤ 1000000000 ∧ b.length ≤ cap ∧ Sat G (blk q [.slice (some ⟨a, 0, none⟩) b.length cap, .int .i64 (k : Nat), .int .i64 0] 127 :: row 5 1 (.slice (some ⟨a, 0, none⟩) b.length cap) b.length (bys b) :: R) w := by
 obtain ⟨x, h⟩ := hw.ex_out
 obtain ⟨⟨h1, h2, h3, h4⟩, h⟩ := h.lift_out
 obtain ⟨v, hw⟩ := rdD_open h
 obtain ⟨a, cap, rfl⟩ := row_form (hw.pick (A := row 5 1 _ _ _) pK)
 obtain ⟨-, bb, -, hca, hcc, -⟩ := row_some (hw.pick (A := row 5 1 _ _ _) pK) h3
 subst hca
 exact ⟨x.1, x.2, bb, cap, h1, h2, h3, h4, hcc, hw⟩
theorem rdS_in {k : Nat} {v : Value} (h2 : k ≤ b.length) (h3 : 0 < b.length) (h4 : b.length ≤ 1000000000) (hw : Sat G (blk q [v, .int .i64 (k : Nat), .int .i64 0] 127 :: row 5 1 v b.length (bys b) :: R) w) : Sat G (rdS q (some (b.drop k)) :: R) w :=
 Sat.ex_in (b, k) (Sat.lift_in ⟨rfl, h2, h3, h4⟩ (rdD_shut hw))
theorem ct_ref02_NewReaderS {v : Value} (hw : Sat G L w) (kl : Knows L (SlB v b)) (h0 : 0 < b.length) (hl : b.length ≤ 1000000000) : Calls Tryz.prog 49 #[v] w (Ret fun r w' => ∃ q, r = .pointer (some ⟨q, 0, none⟩) ∧ Sat G (rdS q (some b) :: L) w') := by
 refine calls_of_x (args := [_]) Tryz.func49 rfl Tryz.ntmps49 rfl rfl ?_
 refine x_seq ?_
 refine x_region rfl ?_
 refine x_as rfl rfl trivial rfl ?_
 refine xl_nil ?_
 refine x_seq ?_
 refine x_region rfl ?_
 refine x_mv rfl rfl trivial rfl ?_
 refine x_call rfl rfl trivial cal_ref00_CopyBytes rfl (ct_ref00_CopyBytes hw kl (by omega)) rfl (fun w v4 hv => ?_)
 have hw := hv
 obtain ⟨a4, c4, rfl⟩ := row_form hw
 refine x_build (v := .agg #[.slice a4 b.length c4, .int .i64 0, .int .i64 0]) rfl rfl trivial rfl (fun w => by kernel_rfl) ?_
 refine x_box rfl rfl trivial rfl rfl hw rfl (fun w b6 hw => ?_)
 refine x_as rfl rfl trivial rfl ?_
 refine xl_nil ?_
 refine x_ret ?_
 exact end1 rfl rfl rfl ⟨b6, rfl, rdS_in (k := 0) (Nat.zero_le _) h0 hl hw⟩
theorem ct_ref02_Reader_fail {v u : Value} {e : Int} (hw : Sat G (blk q [v, u, .int .i64 0] 127 :: L) w) : Calls Tryz.prog 170 #[.pointer (some ⟨q, 0, none⟩), .int .i64 e] w (Ret fun r w' => Sat G (blk q [v, u, .int .i64 e] 127 :: L) w') := by
 refine calls_of_x (args := [_, _]) Tryz.func170 rfl Tryz.ntmps170 rfl rfl ?_
 refine x_seq ?_
 refine x_region rfl ?_
 refine x_mv rfl rfl trivial rfl ?_
 refine x_nc rfl rfl trivial rfl ?_
 refine x_fld rfl rfl trivial fo_coppiceref02_Reader_2 rfl ?_
 refine x_ld rfl rfl trivial rfl (Loads.blk1 one_api_Errno hw pK rfl) ?_
 refine x_eq rfl rfl trivial (by kernel_rfl) rfl rfl ?_
 refine xl_nil ?_
 refine x_if rfl (fun h1 => ?_) (fun h1 => ?_)
 ·
  refine x_region rfl ?_
  refine x_mv rfl rfl trivial rfl ?_
  refine x_mv rfl rfl trivial rfl ?_
  refine x_nc rfl rfl trivial rfl ?_
  refine x_fld rfl rfl trivial fo_coppiceref02_Reader_2 rfl ?_
  refine x_st1 (l' := [_, _, _]) rfl trivial rfl rfl one_api_Errno rfl hw pK rfl rfl rfl (fun w hw => ?_)
  refine xl_nil ?_
  exact end0 rfl rfl (hw)
 exact absurd rfl h1
theorem ct_ref02_Reader_Left {a : Option Addr} {n c k : Nat} {u : Value} (hw : Sat G (blk q [.slice a n c, .int .i64 k, u] 127 :: L) w) (hn : n ≤ 1000000000000) (hk : k ≤ 1000000000000) : Calls Tryz.prog 106 #[.pointer (some ⟨q, 0, none⟩)] w (Ret fun r w' => r = .int .i64 ((n : Int) - (k : Int)) ∧ Sat G (blk q [.slice a n c, .int .i64 k, u] 127 :: L) w') := by
 refine calls_of_x (args := [_]) Tryz.func106 rfl Tryz.ntmps106 rfl rfl ?_
 refine x_seq ?_
 refine x_region rfl ?_
 refine x_as rfl rfl trivial rfl ?_
 refine xl_nil ?_
 refine x_seq ?_
 refine x_draw [0, 1, 2, 3, 4, 5, 6, 7, 8, 9, 10] mixed (by kernel_rfl) ?_
 replace hw := hw.drawn (w.drawn + 1)
 refine x_mv rfl rfl trivial rfl ?_
 refine x_nc rfl rfl trivial rfl ?_
 refine x_fld rfl rfl trivial fo_coppiceref02_Reader_0 rfl ?_
 refine x_ld rfl rfl trivial rfl (Loads.blk1 one_sl_uint8 hw pK rfl) ?_
 refine x_len rfl rfl trivial (by kernel_rfl) U_sl_uint8 rfl ?_
 refine x_mv rfl rfl trivial rfl ?_
 refine x_nc rfl rfl trivial rfl ?_
 refine x_fld rfl rfl trivial fo_coppiceref02_Reader_1 rfl ?_
 refine x_ld rfl rfl trivial rfl (Loads.blk1 one_int hw pK rfl) ?_
 refine x_subi rfl rfl trivial rfl rfl (by omega) ?_
 refine x_as rfl rfl trivial rfl ?_
 refine xl_nil ?_
 refine x_ret ?_
 exact end1 rfl rfl rfl ⟨rfl, hw⟩
theorem ct_ref02_RawE {n : Nat} (hw : Sat G (rdE q :: L) w) : Calls Tryz.prog 104 #[.pointer (some ⟨q, 0, none⟩), .int .i64 n] w (Ret fun r w' => r = .slice none 0 0 ∧ Sat G (rdE q :: L) w') := by
 obtain ⟨v, u, er, her, hw⟩ := rdE_out hw
 refine calls_of_x (args := [_, _]) Tryz.func104 rfl Tryz.ntmps104 rfl rfl ?_
 refine x_seq ?_
 refine x_region rfl ?_
 refine x_as rfl rfl trivial rfl ?_
 refine xl_nil ?_
 refine x_seq ?_
 refine x_seq ?_
 refine x_region rfl ?_
 refine x_mv rfl rfl trivial rfl ?_
 refine x_nc rfl rfl trivial rfl ?_
 refine x_fld rfl rfl trivial fo_coppiceref02_Reader_2 rfl ?_
 refine x_ld rfl rfl trivial rfl (Loads.blk1 (v := .int .i64 er) one_api_Errno hw pK rfl) ?_
 refine x_ne rfl rfl trivial (by kernel_rfl) rfl rfl ?_
 refine xl_nil ?_
 refine x_if rfl (fun h1 => ?_) (fun h1 => ?_)
 ·
  refine x_seq ?_
  refine x_region rfl ?_
  refine x_as rfl rfl trivial rfl ?_
  refine xl_nil ?_
  refine x_ret ?_
  exact end1 rfl rfl rfl ⟨rfl, rdE_in her hw⟩
 exact absurd her h1
theorem ct_ref02_RawC {n : Nat} {c : Bys} (hw : Sat G (rdS q (some c) :: L) w) (hn : n ≤ 1000000000) : Calls Tryz.prog 104 #[.pointer (some ⟨q, 0, none⟩), .int .i64 n] w (Ret fun r w' => Sat G (row 5 1 r (rawS n (some c)).2.length (bys (rawS n (some c)).2) :: rdS q (rawS n (some c)).1 :: L) w') := by
 obtain ⟨b, k, a, cap, hc, hkb, hb0, hbl, hcap, hw⟩ := rdS_out hw
 have hcl : c.length = b.length - k := by rw [hc, List.length_drop]
 refine calls_of_x (args := [_, _]) Tryz.func104 rfl Tryz.ntmps104 rfl rfl ?_
 refine x_seq ?_
 refine x_region rfl ?_
 refine x_as rfl rfl trivial rfl ?_
 refine xl_nil ?_
 refine x_seq ?_
 refine x_seq ?_
 refine x_region rfl ?_
 refine x_mv rfl rfl trivial rfl ?_
 refine x_nc rfl rfl trivial rfl ?_
 refine x_fld rfl rfl trivial fo_coppiceref02_Reader_2 rfl ?_
 refine x_ld rfl rfl trivial rfl (Loads.blk1 one_api_Errno hw pK rfl) ?_
 refine x_ne rfl rfl trivial (by kernel_rfl) rfl rfl ?_
 refine xl_nil ?_
 refine x_if rfl (fun h1 => ?_) (fun h1 => ?_)
 ·
  exact absurd rfl h1
 refine x_skip ?_
 refine x_seq ?_
 refine x_seq ?_
 refine x_region rfl ?_
 refine x_mv rfl rfl trivial rfl ?_
 refine x_lt rfl rfl trivial rfl rfl ?_
 refine xl_nil ?_
 refine x_if rfl (fun h2 => ?_) (fun h2 => ?_)
 ·
  exact absurd h2 (by omega)
 refine x_skip ?_
 refine x_seq ?_
 refine x_seq ?_
 refine x_region rfl ?_
 refine x_mv rfl rfl trivial rfl ?_
 refine x_mv rfl rfl trivial rfl ?_
 refine x_call rfl rfl trivial cal_ref02_Reader_Left rfl (ct_ref02_Reader_Left hw (by omega) (by omega)) rfl (fun w v17 hv => ?_)
 obtain ⟨rfl, hw⟩ := hv
 refine x_gt rfl rfl trivial rfl rfl ?_
 refine xl_nil ?_
 refine x_if rfl (fun h3 => ?_) (fun h3 => ?_)
 ·
  refine x_seq ?_
  refine x_region rfl ?_
  refine x_mv rfl rfl trivial rfl ?_
  refine x_call rfl rfl trivial cal_ref02_Reader_fail rfl (ct_ref02_Reader_fail (e := 2) hw) rfl (fun w v20 hv => ?_)
  have hw := hv
  refine xl_nil ?_
  refine x_seq ?_
  refine x_region rfl ?_
  refine x_as rfl rfl trivial rfl ?_
  refine xl_nil ?_
  refine x_ret ?_
  exact end1 rfl rfl rfl (by
 have e1 : rawS n (some c) = (none, []) := by simp only [rawS]; rw [if_neg (by omega)]
 rw [e1]
 exact row_nil ((rdE_in (by decide) hw).pick (.there .here)).tail 5 1)
 refine x_skip ?_
 refine x_seq ?_
 refine x_draw [0, 1, 2, 3, 4, 5, 6, 7, 8, 9, 10, 11, 12, 13, 14, 15, 16] mixed (by kernel_rfl) ?_
 replace hw := hw.drawn (w.drawn + 1)
 refine x_mv rfl rfl trivial rfl ?_
 refine x_nc rfl rfl trivial rfl ?_
 refine x_fld rfl rfl trivial fo_coppiceref02_Reader_0 rfl ?_
 refine x_ld rfl rfl trivial rfl (Loads.blk1 one_sl_uint8 hw pK rfl) ?_
 refine x_mv rfl rfl trivial rfl ?_
 refine x_nc rfl rfl trivial rfl ?_
 refine x_fld rfl rfl trivial fo_coppiceref02_Reader_1 rfl ?_
 refine x_ld rfl rfl trivial rfl (Loads.blk1 one_int hw pK rfl) ?_
 refine x_mv rfl rfl trivial rfl ?_
 refine x_nc rfl rfl trivial rfl ?_
 refine x_fld rfl rfl trivial fo_coppiceref02_Reader_1 rfl ?_
 refine x_ld rfl rfl trivial rfl (Loads.blk1 one_int hw pK rfl) ?_
 refine x_mv rfl rfl trivial rfl ?_
 refine x_addi rfl rfl trivial rfl rfl (by omega) ?_
 refine x_cutBB (b := b) rfl rfl trivial U_sl_uint8 sz_uint8 rfl rfl rfl ((SlB.row.head _).at (hw.bring (As := [row 5 1 _ _ _]) bR)) ⟨by omega, by omega, by omega⟩ (fun v35 h35 => ?_)
 have k35 : Knows (row 5 1 (.slice (some ⟨a, 0, none⟩) b.length cap) b.length (bys b) :: blk q [.slice (some ⟨a, 0, none⟩) b.length cap, .int .i64 (k : Nat), .int .i64 0] 127 :: L) (SlB v35 (c.take n)) := fun g w hw => by
  have h := h35 w ((SlB.row.head _).at hw)
  have e1 : ((k : Nat) : Int).toNat = k := Int.toNat_natCast k
  have e2 : (((k : Nat) : Int) + ((n : Nat) : Int)).toNat - k = n := by omega
  rw [e1, e2, ← hc] at h
  exact h
 refine x_call rfl rfl trivial cal_ref00_CopyBytes rfl (ct_ref00_CopyBytes (l := c.take n) (hw.bring (As := [row 5 1 _ _ _, blk q _ _]) bR) k35 (by rw [List.length_take]; omega)) (by kernel_rfl) (fun w v36 hv => ?_)
 have hw := hv
 refine x_as rfl rfl trivial rfl ?_
 refine xl_nil ?_
 refine x_seq ?_
 refine x_region rfl ?_
 refine x_mv rfl rfl trivial rfl ?_
 refine x_nc rfl rfl trivial rfl ?_
 refine x_fld rfl rfl trivial fo_coppiceref02_Reader_1 rfl ?_
 refine x_ld rfl rfl trivial rfl (Loads.blk1 one_int hw pK rfl) ?_
 refine x_mv rfl rfl trivial rfl ?_
 refine x_addi rfl rfl trivial rfl rfl (by omega) ?_
 refine x_nc rfl rfl trivial rfl ?_
 refine x_fld rfl rfl trivial fo_coppiceref02_Reader_1 rfl ?_
 refine x_st1 (l' := [_, _, _]) rfl trivial rfl rfl one_int rfl hw pK rfl rfl rfl (fun w hw => ?_)
 refine xl_nil ?_
 refine x_seq ?_
 refine x_region rfl ?_
 refine x_mv rfl rfl trivial rfl ?_
 refine x_as rfl rfl trivial rfl ?_
 refine xl_nil ?_
 refine x_ret ?_
 exact end1 rfl rfl rfl (by
 have e1 : rawS n (some c) = (some (c.drop n), c.take n) := by simp only [rawS]; rw [if_pos (by omega)]
 rw [e1]
 have hz := hw.bring (As := [blk q _ _, row 5 1 (.slice (some ⟨a, 0, none⟩) _ _) _ _]) bR
 have hz2 := rdS_in (k := k + n) (by omega) hb0 hbl hz
 rw [← List.drop_drop, ← hc] at hz2
 exact hz2.pick (.there .here))
theorem ct_ref02_RawS {n : Nat} {s : RdS} (hw : Sat G (rdS q s :: L) w) (hn : n ≤ 1000000000) : Calls Tryz.prog 104 #[.pointer (some ⟨q, 0, none⟩), .int .i64 n] w (Ret fun r w' => Sat G (row 5 1 r (rawS n s).2.length (bys (rawS n s).2) :: rdS q (rawS n s).1 :: L) w') := by
 cases s with
 | none => exact Calls.mono (ct_ref02_RawE hw) fun en w' ⟨r, hr, h1, h2⟩ => ⟨r, hr, by rw [h1]; exact row_nil h2 5 1⟩
 | some c => exact ct_ref02_RawC hw hn
theorem ct_ref02_GetS {n : Nat} {s : RdS} (hw : Sat G (rdS q s :: L) w) (hn : n ≤ 8) : Calls Tryz.prog 50 #[.pointer (some ⟨q, 0, none⟩), .int .i64 n] w (Ret fun r w' => r = .int .u64 ((getS n s).2 : Nat) ∧ Sat G (rdS q (getS n s).1 :: L) w') := by
 rw [getS_raw]
 have hcl : (rawS n s).2.length ≤ 8 := Nat.le_trans rawS_len hn
 refine calls_of_x (args := [_, _]) Tryz.func50 rfl Tryz.ntmps50 rfl rfl ?_
 refine x_seq ?_
 refine x_region rfl ?_
 refine x_as rfl rfl trivial rfl ?_
 refine xl_nil ?_
 refine x_seq ?_
 refine x_region rfl ?_
 refine x_mv rfl rfl trivial rfl ?_
 refine x_mv rfl rfl trivial rfl ?_
 refine x_call rfl rfl trivial cal_ref02_Reader_Raw rfl (ct_ref02_RawS (n := n) hw (by omega)) rfl (fun w v10 hv => ?_)
 have hw := hv
 obtain ⟨c, hc⟩ : ∃ c, c = (rawS n s).2 := ⟨_, rfl⟩
 rw [← hc] at hw hcl ⊢
 obtain ⟨a, cap, rfl⟩ := row_form hw
 have kl := (SlB.row (T := 5) (v := .slice a c.length cap) (l := c)).head (rdS q (rawS n s).1 :: L)
 refine x_as rfl rfl trivial rfl ?_
 refine xl_nil ?_
 refine x_seq ?_
 refine x_region rfl ?_
 refine x_as rfl rfl trivial rfl ?_
 refine xl_nil ?_
 refine x_seq ?_
 refine x_seq ?_
 refine x_region rfl ?_
 refine x_mv rfl rfl trivial rfl ?_
 refine x_len rfl rfl trivial (by kernel_rfl) U_sl_uint8 rfl ?_
 refine x_subi rfl rfl trivial rfl rfl (by omega) ?_
 refine x_as rfl rfl trivial rfl ?_
 refine xl_nil ?_
 refine x_block ?_
 refine x_loop (fun m e w => ∃ j : Nat, j ≤ c.length ∧ m = j + 1 ∧ e = [(5, .slice a c.length cap), (6, .int .u64 (leN (c.drop j) : Nat)), (7, .int .i64 ((j : Int) - 1))] ∧ Sat G (row 5 1 (.slice a c.length cap) c.length (bys c) :: rdS q (rawS n s).1 :: L) w)
  (m := c.length + 1) (e₀ := [(5, .slice a c.length cap), (6, .int .u64 (0 : Nat)), (7, .int .i64 ((c.length : Int) - 1))]) sB
  ⟨c.length, Nat.le_refl _, rfl, by rw [List.drop_eq_nil_of_le (by omega)]; rfl, hw⟩ ?_
 rintro m e w ⟨j, hj, rfl, rfl, hw⟩
 refine x_seq ?_
 refine x_seq ?_
 refine x_region rfl ?_
 refine x_mv rfl rfl trivial rfl ?_
 refine x_ge rfl rfl trivial rfl rfl ?_
 refine xl_nil ?_
 refine x_if rfl (fun h1 => ?_) (fun h1 => ?_)
 ·
  obtain ⟨i, rfl⟩ : ∃ i, j = i + 1 := ⟨j - 1, by omega⟩
  have ei : ((i + 1 : Nat) : Int) - 1 = (i : Int) := by omega
  rw [ei]
  obtain ⟨x, hx⟩ : ∃ x, x = c.getD i 0 := ⟨_, rfl⟩
  have hdi : c.drop i = x :: c.drop (i + 1) := by
   rw [List.drop_eq_getElem_cons (by omega), hx, List.getD_eq_getElem?_getD, List.getElem?_eq_getElem (by omega)]; rfl
  have hb64 : leN (c.drop i) < 18446744073709551616 := leN_lt64 (by rw [List.length_drop]; omega)
  have hlc : leN (c.drop i) = x.toNat + 256 * leN (c.drop (i + 1)) := by rw [hdi]; rfl
  obtain ⟨bb, oo, rfl⟩ := (kl.at hw).nn (by omega)
  refine x_skip ?_
  refine x_seq ?_
  refine x_block ?_
  refine x_region rfl ?_
  refine x_mv rfl rfl trivial rfl ?_
  refine x_mul rfl rfl trivial rfl rfl ?_
  refine x_mv rfl rfl trivial rfl ?_
  refine x_mv rfl rfl trivial rfl ?_
  refine x_idx1 rfl rfl trivial U_sl_uint8 sz_uint8 rfl rfl ⟨by omega, by omega⟩ ?_
  refine x_ld rfl rfl trivial rfl (Loads.one (v := bv x) one_uint8 (by have h := (kl.at hw).at (i := (i : Int)) ⟨by omega, by omega⟩; rw [hx]; exact h)) ?_
  refine x_conv rfl rfl trivial (by kernel_rfl) U_uint8 U_uint64 rfl ?_
  refine x_add rfl rfl trivial rfl rfl ?_
  refine x_as rfl rfl trivial rfl ?_
  refine xl_nil ?_
  refine x_region rfl ?_
  refine x_mv rfl rfl trivial rfl ?_
  refine x_subi rfl rfl trivial rfl rfl (by omega) ?_
  refine x_as rfl rfl trivial rfl ?_
  refine xl_nil ?_
  have e1 : IntKind.u64.wrap (IntKind.u64.wrap (((leN (c.drop (i + 1)) : Nat) : Int) * 256) + IntKind.u64.wrap (x.toNat : Int)) = ((leN (c.drop i) : Nat) : Int) := by
   rw [byte64, show ((leN (c.drop (i + 1)) : Nat) : Int) * 256 = ((leN (c.drop (i + 1)) * 256 : Nat) : Int) by push_cast; rfl, w64 (by omega), show ((leN (c.drop (i + 1)) * 256 : Nat) : Int) + (x.toNat : Int) = ((leN (c.drop i) : Nat) : Int) by rw [hlc]; push_cast; omega]
   exact w64 hb64
  rw [e1]
  exact ⟨i + 1, by omega, [(5, _), (6, .int .u64 (leN (c.drop i) : Nat)), (7, .int .i64 ((i : Int) - 1))], sB, i, by omega, rfl, rfl, hw⟩
 refine x_exit rfl ?_
 refine x_seq ?_
 refine x_region rfl ?_
 refine x_mv rfl rfl trivial rfl ?_
 refine x_as rfl rfl trivial rfl ?_
 refine xl_nil ?_
 refine x_ret ?_
 exact end1 rfl rfl rfl (by
 have hj0 : j = 0 := by omega
 subst hj0
 exact ⟨rfl, hw.tail⟩)
theorem ct_ref02_ShortE {n : Nat} (hw : Sat G (rdE q :: L) w) : Calls Tryz.prog 105 #[.pointer (some ⟨q, 0, none⟩), .int .i64 n] w (Ret fun r w' => r = .slice none 0 0 ∧ Sat G (rdE q :: L) w') := by
 obtain ⟨v, u, er, her, hw⟩ := rdE_out hw
 refine calls_of_x (args := [_, _]) Tryz.func105 rfl Tryz.ntmps105 rfl rfl ?_
 refine x_seq ?_
 refine x_region rfl ?_
 refine x_as rfl rfl trivial rfl ?_
 refine xl_nil ?_
 refine x_seq ?_
 refine x_seq ?_
 refine x_region rfl ?_
 refine x_mv rfl rfl trivial rfl ?_
 refine x_nc rfl rfl trivial rfl ?_
 refine x_fld rfl rfl trivial fo_coppiceref02_Reader_2 rfl ?_
 refine x_ld rfl rfl trivial rfl (Loads.blk1 (v := .int .i64 er) one_api_Errno hw pK rfl) ?_
 refine x_ne rfl rfl trivial (by kernel_rfl) rfl rfl ?_
 refine xl_nil ?_
 refine x_if rfl (fun h1 => ?_) (fun h1 => ?_)
 ·
  refine x_seq ?_
  refine x_region rfl ?_
  refine x_as rfl rfl trivial rfl ?_
  refine xl_nil ?_
  refine x_ret ?_
  exact end1 rfl rfl rfl ⟨rfl, rdE_in her hw⟩
 exact absurd her h1
theorem ct_ref02_ShortC {n : Nat} {c : Bys} (hw : Sat G (rdS q (some c) :: L) w) : Calls Tryz.prog 105 #[.pointer (some ⟨q, 0, none⟩), .int .i64 n] w (Ret fun r w' => Sat G (row 5 1 r (shortS n (some c)).2.length (bys (shortS n (some c)).2) :: rdS q (shortS n (some c)).1 :: L) w') := by
 obtain ⟨b, k, a, cap, hc, hkb, hb0, hbl, hcap, hw⟩ := rdS_out hw
 have hcl : c.length = b.length - k := by rw [hc, List.length_drop]
 have hnil : ∀ w, shortS n (some c) = (none, []) → Sat G (rdE q :: row 5 1 (.slice (some ⟨a, 0, none⟩) b.length cap) b.length (bys b) :: L) w → Sat G (row 5 1 (.slice none 0 0) (shortS n (some c)).2.length (bys (shortS n (some c)).2) :: rdS q (shortS n (some c)).1 :: L) w := fun w e1 hw => by
  rw [e1]
  exact row_nil (hw.pick (.there .here)).tail 5 1
 refine calls_of_x (args := [_, _]) Tryz.func105 rfl Tryz.ntmps105 rfl rfl ?_
 refine x_seq ?_
 refine x_region rfl ?_
 refine x_as rfl rfl trivial rfl ?_
 refine xl_nil ?_
 refine x_seq ?_
 refine x_seq ?_
 refine x_region rfl ?_
 refine x_mv rfl rfl trivial rfl ?_
 refine x_nc rfl rfl trivial rfl ?_
 refine x_fld rfl rfl trivial fo_coppiceref02_Reader_2 rfl ?_
 refine x_ld rfl rfl trivial rfl (Loads.blk1 one_api_Errno hw pK rfl) ?_
 refine x_ne rfl rfl trivial (by kernel_rfl) rfl rfl ?_
 refine xl_nil ?_
 refine x_if rfl (fun h1 => ?_) (fun h1 => ?_)
 ·
  exact absurd rfl h1
 refine x_skip ?_
 refine x_seq ?_
 refine x_seq ?_
 refine x_region rfl ?_
 refine x_mv rfl rfl trivial rfl ?_
 refine x_call rfl rfl trivial cal_ref02_Reader_Left rfl (ct_ref02_Reader_Left hw (by omega) (by omega)) rfl (fun w v12 hv => ?_)
 obtain ⟨rfl, hw⟩ := hv
 refine x_eq rfl rfl trivial (by kernel_rfl) rfl rfl ?_
 refine xl_nil ?_
 refine x_if rfl (fun h2 => ?_) (fun h2 => ?_)
 ·
  refine x_seq ?_
  refine x_region rfl ?_
  refine x_mv rfl rfl trivial rfl ?_
  refine x_call rfl rfl trivial cal_ref02_Reader_fail rfl (ct_ref02_Reader_fail (e := 2) hw) rfl (fun w v15 hv => ?_)
  have hw := hv
  refine xl_nil ?_
  refine x_seq ?_
  refine x_region rfl ?_
  refine x_as rfl rfl trivial rfl ?_
  refine xl_nil ?_
  refine x_ret ?_
  exact end1 rfl rfl rfl (hnil w (by
 have : c = [] := List.eq_nil_of_length_eq_zero (by omega)
 rw [this]; rfl) (rdE_in (by decide) hw))
 obtain ⟨x, r, hxr⟩ : ∃ x r, c = x :: r := by
  cases hcc : c with
  | nil => rw [hcc] at hcl; simp only [List.length_nil] at hcl; omega
  | cons x r => exact ⟨x, r, rfl⟩
 have hrl : c.length = r.length + 1 := by rw [hxr]; rfl
 have hxk : b.getD k 0 = x := by
  rw [hc] at hxr
  rw [List.getD_eq_getElem?_getD, ← List.head?_drop, hxr]; rfl
 have hx8 := x.toNat_lt
 refine x_skip ?_
 refine x_seq ?_
 refine x_draw [0, 1, 2, 3, 4, 5, 6, 7, 8, 9, 10, 11] mixed (by kernel_rfl) ?_
 replace hw := hw.drawn (w.drawn + 1)
 refine x_mv rfl rfl trivial rfl ?_
 refine x_nc rfl rfl trivial rfl ?_
 refine x_fld rfl rfl trivial fo_coppiceref02_Reader_0 rfl ?_
 refine x_ld rfl rfl trivial rfl (Loads.blk1 one_sl_uint8 hw pK rfl) ?_
 refine x_mv rfl rfl trivial rfl ?_
 refine x_nc rfl rfl trivial rfl ?_
 refine x_fld rfl rfl trivial fo_coppiceref02_Reader_1 rfl ?_
 refine x_ld rfl rfl trivial rfl (Loads.blk1 one_int hw pK rfl) ?_
 refine x_idx1 rfl rfl trivial U_sl_uint8 sz_uint8 rfl rfl ⟨by omega, by omega⟩ ?_
 refine x_ld rfl rfl trivial rfl (Loads.one (v := bv x) one_uint8 (by have h := ((SlB.row.head _).at (hw.bring (As := [row 5 1 _ _ _]) bR)).at (i := (k : Int)) ⟨by omega, by omega⟩; rw [← hxk]; exact h)) ?_
 refine x_convE (v := (x.toNat : Nat)) rfl rfl trivial (by kernel_rfl) U_uint8 U_int rfl (wrap64 (by omega)) ?_
 refine x_as rfl rfl trivial rfl ?_
 refine xl_nil ?_
 refine x_seq ?_
 refine x_seq ?_
 refine x_region rfl ?_
 refine x_mv rfl rfl trivial rfl ?_
 refine x_mv rfl rfl trivial rfl ?_
 refine x_gt rfl rfl trivial rfl rfl ?_
 refine xl_nil ?_
 refine x_if rfl (fun h3 => ?_) (fun h3 => ?_)
 ·
  refine x_seq ?_
  refine x_region rfl ?_
  refine x_mv rfl rfl trivial rfl ?_
  refine x_call rfl rfl trivial cal_ref02_Reader_fail rfl (ct_ref02_Reader_fail (e := 4) hw) rfl (fun w v31 hv => ?_)
  have hw := hv
  refine xl_nil ?_
  refine x_seq ?_
  refine x_region rfl ?_
  refine x_as rfl rfl trivial rfl ?_
  refine xl_nil ?_
  refine x_ret ?_
  exact end1 rfl rfl rfl (hnil w (by rw [hxr]; simp only [shortS]; rw [if_neg (by omega)]) (rdE_in (by decide) hw))
 refine x_skip ?_
 refine x_seq ?_
 refine x_seq ?_
 refine x_region rfl ?_
 refine x_mv rfl rfl trivial rfl ?_
 refine x_mv rfl rfl trivial rfl ?_
 refine x_call rfl rfl trivial cal_ref02_Reader_Left rfl (ct_ref02_Reader_Left hw (by omega) (by omega)) rfl (fun w v34 hv => ?_)
 obtain ⟨rfl, hw⟩ := hv
 refine x_subi rfl rfl trivial rfl rfl (by omega) ?_
 refine x_gt rfl rfl trivial rfl rfl ?_
 refine xl_nil ?_
 refine x_if rfl (fun h4 => ?_) (fun h4 => ?_)
 ·
  refine x_seq ?_
  refine x_region rfl ?_
  refine x_mv rfl rfl trivial rfl ?_
  refine x_call rfl rfl trivial cal_ref02_Reader_fail rfl (ct_ref02_Reader_fail (e := 2) hw) rfl (fun w v38 hv => ?_)
  have hw := hv
  refine xl_nil ?_
  refine x_seq ?_
  refine x_region rfl ?_
  refine x_as rfl rfl trivial rfl ?_
  refine xl_nil ?_
  refine x_ret ?_
  exact end1 rfl rfl rfl (hnil w (by rw [hxr]; simp only [shortS]; rw [if_neg (by omega)]) (rdE_in (by decide) hw))
 have hcr : r = b.drop (k + 1) := by
  have := congrArg List.tail hxr
  rw [hc, List.tail_drop] at this
  exact this.symm
 refine x_skip ?_
 refine x_seq ?_
 refine x_region rfl ?_
 refine x_mv rfl rfl trivial rfl ?_
 refine x_nc rfl rfl trivial rfl ?_
 refine x_fld rfl rfl trivial fo_coppiceref02_Reader_1 rfl ?_
 refine x_ld rfl rfl trivial rfl (Loads.blk1 one_int hw pK rfl) ?_
 refine x_addi rfl rfl trivial rfl rfl (by omega) ?_
 refine x_nc rfl rfl trivial rfl ?_
 refine x_fld rfl rfl trivial fo_coppiceref02_Reader_1 rfl ?_
 refine x_st1 (l' := [_, _, _]) rfl trivial rfl rfl one_int rfl hw pK rfl rfl rfl (fun w hw => ?_)
 refine xl_nil ?_
 refine x_seq ?_
 refine x_region rfl ?_
 refine x_mv rfl rfl trivial rfl ?_
 refine x_mv rfl rfl trivial rfl ?_
 refine x_call rfl rfl trivial cal_ref02_Reader_Raw rfl (ct_ref02_RawS (n := x.toNat) (rdS_in (k := k + 1) (by omega) hb0 hbl hw) (by omega)) rfl (fun w v48 hv => ?_)
 have hw := hv
 rw [← hcr] at hw
 refine x_as rfl rfl trivial rfl ?_
 refine xl_nil ?_
 refine x_ret ?_
 exact end1 rfl rfl rfl (by
 have e1 : shortS n (some c) = (some (r.drop x.toNat), r.take x.toNat) := by rw [hxr]; simp only [shortS]; rw [if_pos (by omega)]
 have e2 : rawS x.toNat (some r) = (some (r.drop x.toNat), r.take x.toNat) := by simp only [rawS]; rw [if_pos (by omega)]
 rw [e1]
 rw [e2] at hw
 exact hw)
theorem ct_ref02_ShortS {n : Nat} {s : RdS} (hw : Sat G (rdS q s :: L) w) : Calls Tryz.prog 105 #[.pointer (some ⟨q, 0, none⟩), .int .i64 n] w (Ret fun r w' => Sat G (row 5 1 r (shortS n s).2.length (bys (shortS n s).2) :: rdS q (shortS n s).1 :: L) w') := by
 cases s with
 | none => exact Calls.mono (ct_ref02_ShortE hw) fun en w' ⟨r, hr, h1, h2⟩ => ⟨r, hr, by rw [h1]; exact row_nil h2 5 1⟩
 | some c => exact ct_ref02_ShortC hw
theorem rdS_open {s : RdS} (hw : Sat G (rdS q s :: L) w) : ∃ (er : Int) (v u : Value) (M : List Assn), (er ≠ 0 ↔ s = none) ∧ (∀ w, Sat G (blk q [v, u, .int .i64 er] 127 :: M) w → Sat G (rdS q s :: L) w) ∧ Sat G (blk q [v, u, .int .i64 er] 127 :: M) w := by
 cases s with
 | none =>
  obtain ⟨v, u, er, her, hw⟩ := rdE_out hw
  exact ⟨er, v, u, L, by simp [her], fun w h => rdE_in her h, hw⟩
 | some c =>
  obtain ⟨b, k, a, cap, hc, hkb, hb0, hbl, hcap, hw⟩ := rdS_out hw
  exact ⟨0, _, _, _, by simp, fun w h => by rw [hc]; exact rdS_in hkb hb0 hbl h, hw⟩
theorem ct_ref02_EndC {c : Bys} (hw : Sat G (rdS q (some c) :: L) w) : Calls Tryz.prog 55 #[.pointer (some ⟨q, 0, none⟩)] w (Ret fun r w' => ∃ e : Int, r = .int .i64 e ∧ (e = 0 ↔ c = []) ∧ Sat G (rdS q (some c) :: L) w') := by
 obtain ⟨b, k, a, cap, hc, hkb, hb0, hbl, hcap, hw⟩ := rdS_out hw
 have hcl : c.length = b.length - k := by rw [hc, List.length_drop]
 refine calls_of_x (args := [_]) Tryz.func55 rfl Tryz.ntmps55 rfl rfl ?_
 refine x_seq ?_
 refine x_region rfl ?_
 refine x_as rfl rfl trivial rfl ?_
 refine xl_nil ?_
 refine x_seq ?_
 refine x_seq ?_
 refine x_region rfl ?_
 refine x_mv rfl rfl trivial rfl ?_
 refine x_nc rfl rfl trivial rfl ?_
 refine x_fld rfl rfl trivial fo_coppiceref02_Reader_2 rfl ?_
 refine x_ld rfl rfl trivial rfl (Loads.blk1 one_api_Errno hw pK rfl) ?_
 refine x_ne rfl rfl trivial (by kernel_rfl) rfl rfl ?_
 refine xl_nil ?_
 refine x_if rfl (fun h1 => ?_) (fun h1 => ?_)
 ·
  exact absurd rfl h1
 refine x_skip ?_
 refine x_seq ?_
 refine x_seq ?_
 refine x_region rfl ?_
 refine x_mv rfl rfl trivial rfl ?_
 refine x_call rfl rfl trivial cal_ref02_Reader_Left rfl (ct_ref02_Reader_Left hw (by omega) (by omega)) rfl (fun w v13 hv => ?_)
 obtain ⟨rfl, hw⟩ := hv
 refine x_gt rfl rfl trivial rfl rfl ?_
 refine xl_nil ?_
 refine x_if rfl (fun h2 => ?_) (fun h2 => ?_)
 ·
  refine x_seq ?_
  refine x_region rfl ?_
  refine x_as rfl rfl trivial rfl ?_
  refine xl_nil ?_
  refine x_ret ?_
  exact end1 rfl rfl rfl ⟨3, rfl, ⟨fun h => (by cases h), fun h => (by rw [h] at hcl; simp only [List.length_nil] at hcl; omega)⟩, by rw [hc]; exact rdS_in hkb hb0 hbl hw⟩
 refine x_skip ?_
 refine x_seq ?_
 refine x_region rfl ?_
 refine x_as rfl rfl trivial rfl ?_
 refine xl_nil ?_
 refine x_ret ?_
 exact end1 rfl rfl rfl ⟨0, rfl, ⟨fun _ => List.eq_nil_of_length_eq_zero (by omega), fun _ => rfl⟩, by rw [hc]; exact rdS_in hkb hb0 hbl hw⟩
end
def Sml (l : Bys) : Prop := l.length ≤ 65535
theorem Sml.small {l : Bys} (h : Sml l) : Small l := Nat.le_trans h (by decide)
structure ChV where
 c : Ch
 kv : Value
 ov : Value
 nv : Value
def ChV.cells (x : ChV) : List Value := [.int .i64 (x.c.kind : Nat), x.kv, x.ov, x.nv]
structure ChV.Ok (L : List Assn) (x : ChV) : Prop where
 k : Knows L (SlB x.kv x.c.key)
 o : Knows L (SlB x.ov x.c.old)
 n : Knows L (SlB x.nv x.c.new)
 sk : Small x.c.key
 so : Small x.c.old
 sn : Small x.c.new
structure ChsOk (L : List Assn) (s : Value) (l : List ChV) : Prop where
 sl : Knows L (SlT 4 s (l.map ChV.cells))
 it : ∀ x ∈ l, x.Ok L
 len : l.length ≤ 100000000
def chParts (x : ChV) : List Assn := [row 5 1 x.kv x.c.key.length (bys x.c.key), row 5 1 x.ov x.c.old.length (bys x.c.old), row 5 1 x.nv x.c.new.length (bys x.c.new)]
structure ChsSm (l : List ChV) : Prop where
 it : ∀ x ∈ l, Sml x.c.key ∧ Sml x.c.old ∧ Sml x.c.new
 len : l.length ≤ 100000000
theorem chParts_ok {x : ChV} (h : Small x.c.key ∧ Small x.c.old ∧ Small x.c.new) : x.Ok (chParts x) := ⟨rowB rfl .here, rowB rfl (.there .here), rowB rfl (.there (.there .here)), h.1, h.2.1, h.2.2⟩
theorem chs_it {l : List ChV} (hs : ChsSm l) {x : ChV} (hx : x ∈ l) : x.Ok [both (l.flatMap chParts)] := by
 obtain ⟨B, C, rfl⟩ := List.append_of_mem hx
 have h := chParts_ok (x := x) ⟨(hs.it x hx).1.small, (hs.it x hx).2.1.small, (hs.it x hx).2.2.small⟩
 have e : (B ++ x :: C).flatMap chParts = B.flatMap chParts ++ (chParts x ++ C.flatMap chParts) := by simp
 exact ⟨h.k.both_mem e, h.o.both_mem e, h.n.both_mem e, h.sk, h.so, h.sn⟩
theorem chs_rows (l : List ChV) : ∀ r ∈ l.map ChV.cells, r.length = 4 := fun r hr => by obtain ⟨x, -, rfl⟩ := List.mem_map.1 hr; rfl
theorem chs_ok {s : Value} {l : List ChV} (h : ChsSm l) {L R R' : List Assn} (hp : Pick (row 68 4 s l.length (l.map ChV.cells).flatten) L R) (hq : Pick (both (l.flatMap chParts)) L R') : ChsOk L s l :=
 ⟨((SlT.row (by simp) (chs_rows l)).head _).pick hp, fun x hx => by
  have h1 := chs_it h hx
  exact ⟨(h1.k.head _).pick hq, (h1.o.head _).pick hq, (h1.n.head _).pick hq, h1.sk, h1.so, h1.sn⟩, h.len⟩
section
variable {G : Gh} {L R : List Assn} {w : World}
theorem ct_ref00_EqChange {x y : ChV} (hw : Sat G L w) (hx : x.Ok L) (hy : y.Ok L) (he : x.c = y.c) : Calls Tryz.prog 21 #[.agg x.cells.toArray, .agg y.cells.toArray] w (Ret fun r w' => r = .bool true ∧ Sat G L w') := by
 obtain ⟨c, xk, xo, xn⟩ := x
 obtain ⟨c', yk, yo, yn⟩ := y
 have he : c = c' := he
 subst he
 have k1 := hx.k
 have k2 := hx.o
 have k3 := hx.n
 have k4 := hy.k
 have k5 := hy.o
 have k6 := hy.n
 have hsk : c.key.length ≤ 140737488355328 := hx.sk
 have hso : c.old.length ≤ 140737488355328 := hx.so
 have hsn : c.new.length ≤ 140737488355328 := hx.sn
 simp only at k1 k2 k3 k4 k5 k6
 refine calls_of_x (args := [_, _]) Tryz.func21 rfl Tryz.ntmps21 rfl rfl ?_
 refine x_seq ?_
 refine x_region rfl ?_
 refine x_box rfl rfl trivial rfl rfl hw rfl (fun w b2 hw => ?_)
 refine x_box rfl rfl trivial rfl rfl hw rfl (fun w b3 hw => ?_)
 refine x_as rfl rfl trivial rfl ?_
 refine xl_nil ?_
 refine x_seq ?_
 refine x_region rfl ?_
 refine x_fld rfl rfl trivial fo_api_Change_0 rfl ?_
 refine x_ld rfl rfl trivial rfl (Loads.blk1 (v := .int .i64 (c.kind : Nat)) one_int hw pK rfl) ?_
 refine x_fld rfl rfl trivial fo_api_Change_0 rfl ?_
 refine x_ld rfl rfl trivial rfl (Loads.blk1 (v := .int .i64 (c.kind : Nat)) one_int hw pK rfl) ?_
 refine x_eq rfl rfl trivial (by kernel_rfl) rfl rfl ?_
 refine x_mv rfl rfl trivial rfl ?_
 refine xl_split (d := 10) rfl (fun h1 => ?_) (fun h1 => ?_)
 ·
  refine x_fld rfl rfl ⟨_, rfl, rfl⟩ fo_api_Change_1 rfl ?_
  refine x_ld rfl rfl ⟨_, rfl, rfl⟩ rfl (Loads.blk1 (v := xk) one_sl_uint8 hw pK rfl) ?_
  refine x_fld rfl rfl ⟨_, rfl, rfl⟩ fo_api_Change_1 rfl ?_
  refine x_ld rfl rfl ⟨_, rfl, rfl⟩ rfl (Loads.blk1 (v := yk) one_sl_uint8 hw pK rfl) ?_
  refine x_call rfl rfl ⟨_, rfl, rfl⟩ cal_ref00_EqBytes rfl (ct_ref00_EqBytes hw (k1.of sF) (k4.of sF) hsk hsk) rfl (fun w v15 hv => ?_)
  obtain ⟨rfl, hw⟩ := hv
  refine x_pickT rfl rfl trivial rfl rfl rfl ?_
  refine x_mv rfl rfl trivial rfl ?_
  refine xl_split (d := 17) rfl (fun h2 => ?_) (fun h2 => ?_)
  ·
   refine x_fld rfl rfl ⟨_, rfl, rfl⟩ fo_api_Change_2 rfl ?_
   refine x_ld rfl rfl ⟨_, rfl, rfl⟩ rfl (Loads.blk1 (v := xo) one_sl_uint8 hw pK rfl) ?_
   refine x_fld rfl rfl ⟨_, rfl, rfl⟩ fo_api_Change_2 rfl ?_
   refine x_ld rfl rfl ⟨_, rfl, rfl⟩ rfl (Loads.blk1 (v := yo) one_sl_uint8 hw pK rfl) ?_
   refine x_call rfl rfl ⟨_, rfl, rfl⟩ cal_ref00_EqBytes rfl (ct_ref00_EqBytes hw (k2.of sF) (k5.of sF) hso hso) rfl (fun w v22 hv => ?_)
   obtain ⟨rfl, hw⟩ := hv
   refine x_pickT rfl rfl trivial rfl rfl rfl ?_
   refine x_mv rfl rfl trivial rfl ?_
   refine xl_split (d := 24) rfl (fun h3 => ?_) (fun h3 => ?_)
   ·
    refine x_fld rfl rfl ⟨_, rfl, rfl⟩ fo_api_Change_3 rfl ?_
    refine x_ld rfl rfl ⟨_, rfl, rfl⟩ rfl (Loads.blk1 (v := xn) one_sl_uint8 hw pK rfl) ?_
    refine x_fld rfl rfl ⟨_, rfl, rfl⟩ fo_api_Change_3 rfl ?_
    refine x_ld rfl rfl ⟨_, rfl, rfl⟩ rfl (Loads.blk1 (v := yn) one_sl_uint8 hw pK rfl) ?_
    refine x_call rfl rfl ⟨_, rfl, rfl⟩ cal_ref00_EqBytes rfl (ct_ref00_EqBytes hw (k3.of sF) (k6.of sF) hsn hsn) rfl (fun w v29 hv => ?_)
    obtain ⟨rfl, hw⟩ := hv
    refine x_pickT rfl rfl trivial rfl rfl rfl ?_
    refine x_as rfl rfl trivial rfl ?_
    refine xl_nil ?_
    refine x_ret ?_
    exact end1 rfl rfl rfl ⟨by rw [decide_eq_true rfl], hw.tail.tail⟩
   exact absurd rfl h3
  exact absurd rfl h2
 exact absurd rfl h1
theorem ct_ref00_EqChanges {s t : Value} {l n : List ChV} (hw : Sat G L w) (hl : ChsOk L s l) (hm : ChsOk L t n) (he : l.map ChV.c = n.map ChV.c) : Calls Tryz.prog 11 #[s, t] w (Ret fun r w' => r = .bool true ∧ Sat G L w') := by
 have k1 := hl.sl
 have k2 := hm.sl
 have hln := hl.len
 have hll : l.length = n.length := by have := congrArg List.length he; simpa using this
 obtain ⟨pa, pc, hps, -, -⟩ := (k1.at hw).form
 rw [List.length_map] at hps
 subst hps
 obtain ⟨qa, qc, hqs, -, -⟩ := (k2.at hw).form
 rw [List.length_map] at hqs
 subst hqs
 refine calls_of_x (args := [_, _]) Tryz.func11 rfl Tryz.ntmps11 rfl rfl ?_
 refine x_seq ?_
 refine x_region rfl ?_
 refine x_as rfl rfl trivial rfl ?_
 refine xl_nil ?_
 refine x_seq ?_
 refine x_seq ?_
 refine x_region rfl ?_
 refine x_mv rfl rfl trivial rfl ?_
 refine x_len rfl rfl trivial (by kernel_rfl) U_sl_api_Change rfl ?_
 refine x_mv rfl rfl trivial rfl ?_
 refine x_len rfl rfl trivial (by kernel_rfl) U_sl_api_Change rfl ?_
 refine x_ne rfl rfl trivial (by kernel_rfl) rfl rfl ?_
 refine xl_nil ?_
 refine x_if rfl (fun h1 => ?_) (fun h1 => ?_)
 ·
  exact absurd (by rw [hll]) h1
 refine x_skip ?_
 refine x_seq ?_
 refine x_seq ?_
 refine x_region rfl ?_
 refine x_as rfl rfl trivial rfl ?_
 refine xl_nil ?_
 refine x_block ?_
 refine x_loop (fun m e w => ∃ i : Nat, i ≤ l.length ∧ m = l.length - i ∧ e = [(0, .slice pa l.length pc), (1, .slice qa n.length qc), (5, .int .i64 i)] ∧ Sat G L w)
  (m := l.length) (e₀ := [(0, .slice pa l.length pc), (1, .slice qa n.length qc), (5, .int .i64 (0 : Nat))]) sB
  ⟨0, Nat.zero_le _, rfl, rfl, hw⟩ ?_
 rintro m e w ⟨i, hi, rfl, rfl, hw⟩
 refine x_seq ?_
 refine x_seq ?_
 refine x_region rfl ?_
 refine x_mv rfl rfl trivial rfl ?_
 refine x_mv rfl rfl trivial rfl ?_
 refine x_len rfl rfl trivial (by kernel_rfl) U_sl_api_Change rfl ?_
 refine x_lt rfl rfl trivial rfl rfl ?_
 refine xl_nil ?_
 refine x_if rfl (fun h2 => ?_) (fun h2 => ?_)
 ·
  have hi' : i < l.length := by omega
  obtain ⟨x, hx⟩ : ∃ x, l[i]? = some x := ⟨_, List.getElem?_eq_getElem hi'⟩
  obtain ⟨y, hy⟩ : ∃ y, n[i]? = some y := ⟨_, List.getElem?_eq_getElem (by omega)⟩
  have hxy : x.c = y.c := by
   have h := congrArg (fun l => l[i]?) he
   simp only [List.getElem?_map, hx, hy, Option.map_some, Option.some.injEq] at h
   exact h
  obtain ⟨xb, xo, hxa⟩ := (k1.at hw).nn (by rw [List.length_map]; omega)
  cases hxa
  obtain ⟨yb, yo, hya⟩ := (k2.at hw).nn (by rw [List.length_map]; omega)
  cases hya
  refine x_skip ?_
  refine x_seq ?_
  refine x_block ?_
  refine x_seq ?_
  refine x_draw [0, 1, 2, 3, 4, 5, 6, 7, 8, 9] mixed (by kernel_rfl) ?_
  replace hw := hw.drawn (w.drawn + 1)
  refine x_mv rfl rfl trivial rfl ?_
  refine x_mv rfl rfl trivial rfl ?_
  refine x_idx rfl rfl trivial U_sl_api_Change sz_api_Change rfl rfl ⟨by omega, by omega⟩ ?_
  refine x_ld rfl rfl trivial rfl (Loads.many (cs := x.cells) many_api_Change rfl (by rw [Int.toNat_natCast]; exact (k1.at hw).at (by rw [List.getElem?_map, hx]; rfl))) ?_
  refine x_mv rfl rfl trivial rfl ?_
  refine x_mv rfl rfl trivial rfl ?_
  refine x_idx rfl rfl trivial U_sl_api_Change sz_api_Change rfl rfl ⟨by omega, by omega⟩ ?_
  refine x_ld rfl rfl trivial rfl (Loads.many (cs := y.cells) many_api_Change rfl (by rw [Int.toNat_natCast]; exact (k2.at hw).at (by rw [List.getElem?_map, hy]; rfl))) ?_
  refine x_call rfl rfl trivial cal_ref00_EqChange rfl (ct_ref00_EqChange hw (hl.it x (List.mem_of_getElem? hx)) (hm.it y (List.mem_of_getElem? hy)) hxy) (by kernel_rfl) (fun w v25 hv => ?_)
  obtain ⟨rfl, hw⟩ := hv
  refine x_not rfl rfl trivial rfl ?_
  refine xl_nil ?_
  refine x_cond rfl (fun h3 => ?_) (fun h3 => ?_)
  ·
   cases h3
  refine x_skip ?_
  refine x_region rfl ?_
  refine x_mv rfl rfl trivial rfl ?_
  refine x_addi rfl rfl trivial rfl rfl (by omega) ?_
  refine x_as rfl rfl trivial rfl ?_
  refine xl_nil ?_
  exact ⟨l.length - (i + 1), by omega, [(0, _), (1, _), (5, .int .i64 (i + 1 : Nat))], sB, i + 1, by omega, rfl, rfl, hw⟩
 refine x_exit rfl ?_
 refine x_seq ?_
 refine x_region rfl ?_
 refine x_as rfl rfl trivial rfl ?_
 refine xl_nil ?_
 refine x_ret ?_
 exact end1 rfl rfl rfl ⟨rfl, hw⟩
def ChV.sls (x : ChV) : List Value := [x.kv, x.ov, x.nv]
theorem ct_ref00_ListsOfChanges {s : Value} {l : List ChV} (hw : Sat G L w) (hl : ChsOk L s l) : Calls Tryz.prog 13 #[s] w (Ret fun r w' => Sat G (row 22 1 r (l.length * 3) (l.flatMap ChV.sls) :: L) w') := by
 have k1 := hl.sl
 have hln := hl.len
 obtain ⟨pa, pc, hps, -, -⟩ := (k1.at hw).form
 rw [List.length_map] at hps
 subst hps
 refine calls_of_x (args := [_]) Tryz.func13 rfl Tryz.ntmps13 rfl rfl ?_
 refine x_seq ?_
 refine x_region rfl ?_
 refine x_as rfl rfl trivial rfl ?_
 refine xl_nil ?_
 refine x_seq ?_
 refine x_region rfl ?_
 refine x_as rfl rfl trivial rfl ?_
 refine xl_nil ?_
 refine x_seq ?_
 refine x_seq ?_
 refine x_region rfl ?_
 refine x_as rfl rfl trivial rfl ?_
 refine xl_nil ?_
 refine x_block ?_
 have hw := row_nil hw 22 1
 refine x_loop (fun m e w => ∃ (i : Nat) (u : Value), i ≤ l.length ∧ m = l.length - i ∧ e = [(0, .slice pa l.length pc), (3, u), (4, .int .i64 i)] ∧ Sat G (row 22 1 u (i * 3) ((l.take i).flatMap ChV.sls) :: L) w)
  (m := l.length) (e₀ := [(0, .slice pa l.length pc), (3, .slice none 0 0), (4, .int .i64 (0 : Nat))]) sB
  ⟨0, _, Nat.zero_le _, rfl, rfl, hw⟩ ?_
 rintro m e w ⟨i, u, hi, rfl, rfl, hw⟩
 refine x_seq ?_
 refine x_seq ?_
 refine x_region rfl ?_
 refine x_mv rfl rfl trivial rfl ?_
 refine x_mv rfl rfl trivial rfl ?_
 refine x_len rfl rfl trivial (by kernel_rfl) U_sl_api_Change rfl ?_
 refine x_lt rfl rfl trivial rfl rfl ?_
 refine xl_nil ?_
 refine x_if rfl (fun h1 => ?_) (fun h1 => ?_)
 ·
  have hi' : i < l.length := by omega
  obtain ⟨x, hx⟩ : ∃ x, l[i]? = some x := ⟨_, List.getElem?_eq_getElem hi'⟩
  have hxr : (l.map ChV.cells)[i]? = some x.cells := by rw [List.getElem?_map, hx]; rfl
  obtain ⟨xb, xo, hxa⟩ := ((k1.of sF).at hw).nn (by rw [List.length_map]; omega)
  cases hxa
  have hxo := (hl.it x (List.mem_of_getElem? hx))
  obtain ⟨a1, c1, h1⟩ := (hxo.k.at (hw.tail)).form
  obtain ⟨a2, c2, h2⟩ := (hxo.o.at (hw.tail)).form
  obtain ⟨a3, c3, h3⟩ := (hxo.n.at (hw.tail)).form
  obtain ⟨c, kv, ov, nv⟩ := x
  simp only at h1 h2 h3
  subst h1; subst h2; subst h3
  have ho : Ones [Value.slice a1 c.key.length c1, .slice a2 c.old.length c2, .slice a3 c.new.length c3] := by
   intro z hz
   simp only [List.mem_cons, List.not_mem_nil, or_false] at hz
   rcases hz with rfl | rfl | rfl <;> rfl
  refine x_skip ?_
  refine x_seq ?_
  refine x_block ?_
  refine x_draw [0, 1, 2, 3, 4, 5, 6, 7, 8, 9, 10, 11, 12, 13, 14, 15, 16, 17, 18] mixed (by kernel_rfl) ?_
  replace hw := hw.drawn (w.drawn + 1)
  refine x_mv rfl rfl trivial rfl ?_
  refine x_mv rfl rfl trivial rfl ?_
  refine x_mv rfl rfl trivial rfl ?_
  refine x_idx rfl rfl trivial U_sl_api_Change sz_api_Change rfl rfl ⟨by omega, by omega⟩ ?_
  refine x_fldk rfl rfl trivial fo_api_Change_1 rfl ?_
  refine x_ld rfl rfl trivial rfl (Loads.one (v := .slice a1 c.key.length c1) one_sl_uint8 (((k1.of sF).at hw).cell (j := 1) hxr rfl)) ?_
  refine x_mv rfl rfl trivial rfl ?_
  refine x_mv rfl rfl trivial rfl ?_
  refine x_idx rfl rfl trivial U_sl_api_Change sz_api_Change rfl rfl ⟨by omega, by omega⟩ ?_
  refine x_fldk rfl rfl trivial fo_api_Change_2 rfl ?_
  refine x_ld rfl rfl trivial rfl (Loads.one (v := .slice a2 c.old.length c2) one_sl_uint8 (((k1.of sF).at hw).cell (j := 2) hxr rfl)) ?_
  refine x_mv rfl rfl trivial rfl ?_
  refine x_mv rfl rfl trivial rfl ?_
  refine x_idx rfl rfl trivial U_sl_api_Change sz_api_Change rfl rfl ⟨by omega, by omega⟩ ?_
  refine x_fldk rfl rfl trivial fo_api_Change_3 rfl ?_
  refine x_ld rfl rfl trivial rfl (Loads.one (v := .slice a3 c.new.length c3) one_sl_uint8 (((k1.of sF).at hw).cell (j := 3) hxr rfl)) ?_
  refine x_bsN (cs := [.slice a1 c.key.length c1, .slice a2 c.old.length c2, .slice a3 c.new.length c3]) rfl rfl trivial U_sl_sl_uint8 sz_sl_uint8 z_sl_uint8 (by decide) rfl (by kernel_rfl) hw (by kernel_rfl) (fun w b27 hw => ?_)
  refine x_app (m := i * 3) (k := 3) (news := [.slice a1 c.key.length c1, .slice a2 c.old.length c2, .slice a3 c.new.length c3]) rfl rfl trivial U_sl_sl_uint8 sz_sl_uint8 by_sl_uint8 zs_sl_uint8 rfl rfl hw pK (Rd.blk0 hw pK) rfl ho (by simp only [maxLen]; omega) (by omega) (by kernel_rfl) (fun w v28 hw => ?_)
  refine x_as rfl rfl trivial rfl ?_
  refine xl_nil ?_
  refine x_region rfl ?_
  refine x_mv rfl rfl trivial rfl ?_
  refine x_addi rfl rfl trivial rfl rfl (by omega) ?_
  refine x_as rfl rfl trivial rfl ?_
  refine xl_nil ?_
  have hz := (hw.bring (As := [blk b27 _ _, row 22 1 v28 _ _]) bR).tail
  have e1 : (l.take i).flatMap ChV.sls ++ [Value.slice a1 c.key.length c1, .slice a2 c.old.length c2, .slice a3 c.new.length c3] = (l.take (i + 1)).flatMap ChV.sls := by rw [List.take_add_one, hx, List.flatMap_append]; simp [ChV.sls]
  rw [e1, show i * 3 + 3 = (i + 1) * 3 by omega] at hz
  exact ⟨l.length - (i + 1), by omega, [(0, _), (3, _), (4, .int .i64 (i + 1 : Nat))], sB, i + 1, _, by omega, rfl, rfl, hz⟩
 refine x_exit rfl ?_
 refine x_seq ?_
 refine x_region rfl ?_
 refine x_mv rfl rfl trivial rfl ?_
 refine x_as rfl rfl trivial rfl ?_
 refine xl_nil ?_
 refine x_ret ?_
 exact end1 rfl rfl rfl (by
 have hie : i = l.length := by omega
 subst hie
 rw [List.take_length] at hw
 exact hw)
end
section
variable {P : Program} {n : Nat} {ops : Array Oper} {dr : Bool} {done r : List Nat} {K : Env → World → Prop} {e : Env} {w : World} {i d : Nat} {t : TypeId} {p : String} {af : Array Edge} {g : Option (Nat × Bool)} {s u c : TypeId} {x y : Operand} {v : Value} {l : Bys}
theorem run_text (hs : P.underlying s = some (.slice c)) (hc : P.underlying c = some (.int .u8)) (hu : P.underlying u = some .string) (h : SlB v l w) : (convert s u v).run P w = .ok (.string ⟨l.toArray⟩) w := by
 rcases h with ⟨⟨a, rfl⟩, rfl⟩ | ⟨b, o, cap, rfl, h1, h2⟩
 ·cases a with
  | none =>
   rw [run_convert_bytes_string w s u c _ 0 0 hs hc hu]
   simp only [Conv.bytesToString]
   rfl
  | some a => exact run_convert_bytes_back w s u c a 0 [] hs hc hu (fun j hj => by cases hj)
 refine run_convert_bytes_back w s u c _ cap l hs hc hu (fun j hj => ?_)
 have h3 := h2 j _ (bys_get hj)
 rw [List.getD_eq_getElem?_getD, List.getElem?_eq_getElem hj] at h3
 exact h3
theorem x_tx (ho : ops[i]? = some ⟨some d, .convert s u x, t, p, af, g⟩) (hd : Nat.blt d n = true) (hg : Gd ops e g) (hk : okind P (.convert s u x) = 1) (hs : P.underlying s = some (.slice c)) (hc : P.underlying c = some (.int .u8)) (hu : P.underlying u = some .string)
  (hx : ev e x = some v) (hl : SlB v l w) (h : XL P n ops dr (i :: done) r K ((d, .string ⟨l.toArray⟩) :: e) w) : XL P n ops dr done (i :: r) K e w :=
 xl_read ho (by simpa [dstOk] using hd) hg (ρ := rh e) (by intro z hZ; simp [Op.operands] at hZ; exact oh1 hx hZ) hk (v := .string ⟨l.toArray⟩)
  (by simp only [execOp, rh_of hx, Sem.run_bind, run_text hs hc hu hl, Result.andThen_ok, Sem.run_pure]) h
theorem chk_tx {q d : Nat} {gq : Option (Nat × Bool)} {pq : String} {aq : Array Edge} {tq : TypeId} (ho : ops[q]? = some ⟨some d, .convert s u x, tq, pq, aq, gq⟩) (hs : P.underlying s = some (.slice c)) (hc : P.underlying c = some (.int .u8)) (hu : P.underlying u = some .string)
  (hx : ev e x = some v) (hv : get e d = some (.string ⟨l.toArray⟩)) (hl : SlB v l w) : ChkE P n ops q e w := by
 intro o' ho' a' ha hwant
 have : o' = ⟨some d, .convert s u x, tq, pq, aq, gq⟩ := Option.some.inj (ho'.symm.trans ho)
 subst this
 refine ⟨.string ⟨l.toArray⟩, ?_, fun d' hd' => ?_⟩
 ·have hxa := ha.ev hx
  simp only [execOp, hxa, Sem.run_bind, run_text hs hc hu hl, Result.andThen_ok, Sem.run_pure]
 cases hd'; exact ha.get d _ hv
theorem x_neS {a b : Bys} (ho : ops[i]? = some ⟨some d, .binOp .neq s x y u, t, p, af, g⟩) (hd : Nat.blt d n = true) (hg : Gd ops e g) (hk : okind P (.binOp .neq s x y u) = 0) (hx : ev e x = some (.string ⟨a.toArray⟩)) (hy : ev e y = some (.string ⟨b.toArray⟩))
  (h : XL P n ops dr (i :: done) r K ((d, .bool (decide (a ≠ b))) :: e) w) : XL P n ops dr done (i :: r) K e w :=
 x_bin ho hd hg hk hx hy (fun w' => by
  rw [eqGuard_at_string]
  by_cases hab : a = b <;> simp [binOp, Op.stringOp, hab]) h
end
section
variable {G : Gh} {L R : List Assn} {w : World} {q : Nat} {b : Bys}
theorem ct_span_Compare {v v' : Value} {l l' : Bys} (hw : Sat G L w) (ka : Knows L (SlB v l)) (kb : Knows L (SlB v' l')) : Calls Tryz.prog 101 #[v, v'] w (Ret fun r w' => r = .int .i64 (cmpB l l') ∧ Sat G L w') := by
 refine calls_of_x (args := [_, _]) Tryz.func101 rfl Tryz.ntmps101 rfl rfl ?_
 refine x_seq ?_
 refine x_region rfl ?_
 refine x_as rfl rfl trivial rfl ?_
 refine xl_nil ?_
 refine x_seq ?_
 refine x_region rfl ?_
 refine x_mv rfl rfl trivial rfl ?_
 refine x_mv rfl rfl trivial rfl ?_
 refine x_call rfl rfl trivial cal_bytes_Compare rfl (ct_bytes_Compare hw ka kb) rfl (fun w v7 hv => ?_)
 obtain ⟨rfl, hw⟩ := hv
 refine x_as rfl rfl trivial rfl ?_
 refine xl_nil ?_
 refine x_ret ?_
 exact end1 rfl rfl rfl ⟨rfl, hw⟩
theorem ct_stream_change {s : RdS} {av : Value} {ahead : Bys} {wh : Bool} (hw : Sat G (wrdS q s :: L) w) (hl : LeS 1000000000000 s) (ka : Knows L (SlB av ahead)) :
  Calls Tryz.prog 45 #[.agg #[.pointer (some ⟨q, 0, none⟩)], av, .bool wh] w (Ret fun r w' => ∃ x : ChV, x.c = (chG valS s).2 ∧ r = .tuple #[.agg x.cells.toArray, .bool (decide ((chG valS s).1 ≠ none ∧ mayC (chG valS s).2 ahead wh))] ∧ Sat G (both (chParts x) :: wrdS q (chG valS s).1 :: L) w') := by
 have hk8 : (getS 1 s).2 < 256 := getS_lt 1 s
 have hl1 := getS_le (n := 1) hl
 obtain ⟨S1, hS1⟩ : ∃ S1, S1 = (getS 1 s).1 := ⟨_, rfl⟩
 obtain ⟨k, hk⟩ : ∃ k, k = (getS 1 s).2 := ⟨_, rfl⟩
 rw [← hS1] at hl1
 rw [← hk] at hk8
 have hl2 := shortS_le (n := 24) hl1
 obtain ⟨S2, hS2⟩ : ∃ S2, S2 = (shortS 24 S1).1 := ⟨_, rfl⟩
 obtain ⟨key, hkey⟩ : ∃ key, key = (shortS 24 S1).2 := ⟨_, rfl⟩
 rw [← hS2] at hl2
 have hkl : key.length ≤ 255 := by rw [hkey]; exact shortS_len
 obtain ⟨S3, hS3⟩ : ∃ S3, S3 = (oldS k valS S2).1 := ⟨_, rfl⟩
 obtain ⟨old, hold⟩ : ∃ old, old = (oldS k valS S2).2 := ⟨_, rfl⟩
 have hl3 : LeS 1000000000000 S3 := by
  rw [hS3]; unfold oldS; split
  ·exact hl2
  exact valS_le hl2
 obtain ⟨S4, hS4⟩ : ∃ S4, S4 = (newS k valS S3).1 := ⟨_, rfl⟩
 obtain ⟨new, hnew⟩ : ∃ new, new = (newS k valS S3).2 := ⟨_, rfl⟩
 have hch : chG valS s = (S4, ⟨k, key, old, new⟩) := by rw [hS4, hnew, hS3, hold, hS2, hkey, hS1, hk]; rfl
 rw [hch]
 simp only
 have hfin : ∀ (ka16 oa na : Option Addr) (kc16 oc nc b3 b6 b8 : Nat) (l6 l8 : List Value) (bo : Bool) (w : World), bo = decide (S4 ≠ none ∧ mayC ⟨k, key, old, new⟩ ahead wh) →
   Sat G (wrdS q S4 :: row 5 1 (.slice na new.length nc) new.length (bys new) :: row 5 1 (.slice oa old.length oc) old.length (bys old) :: row 5 1 (.slice ka16 key.length kc16) key.length (bys key) :: blk b8 l8 68 :: blk b6 l6 68 :: blk b3 [.pointer (some ⟨q, 0, none⟩)] 111 :: L) w →
   ∃ x : ChV, x.c = ⟨k, key, old, new⟩ ∧ Value.tuple #[.agg #[.int .i64 (k : Nat), .slice ka16 key.length kc16, .slice oa old.length oc, .slice na new.length nc], .bool bo] = .tuple #[.agg x.cells.toArray, .bool (decide (S4 ≠ none ∧ mayC ⟨k, key, old, new⟩ ahead wh))] ∧ Sat G (both (chParts x) :: wrdS q S4 :: L) w := by
  intro ka16 oa na kc16 oc nc b3 b6 b8 l6 l8 bo w hbo hw
  refine ⟨⟨⟨k, key, old, new⟩, .slice ka16 key.length kc16, .slice oa old.length oc, .slice na new.length nc⟩, rfl, by rw [hbo]; rfl, ?_⟩
  have h1 := (hw.bring (As := [blk b8 _ _, blk b6 _ _, blk b3 _ _]) bR).tail.tail.tail
  exact Sat.both_in (M := [row 5 1 (.slice ka16 _ _) _ _, row 5 1 (.slice oa _ _) _ _, row 5 1 (.slice na _ _) _ _]) (h1.bring (As := [row 5 1 (.slice ka16 _ _) _ _, row 5 1 (.slice oa _ _) _ _, row 5 1 (.slice na _ _) _ _]) bR)
 refine calls_of_x (args := [_, _, _]) Tryz.func45 rfl Tryz.ntmps45 rfl rfl ?_
 refine x_seq ?_
 refine x_region rfl ?_
 refine x_box rfl rfl trivial rfl rfl hw rfl (fun w b3 hw => ?_)
 refine x_alloc rfl rfl trivial z_api_Change hw rfl (fun w b6 hw => ?_)
 refine x_as rfl rfl trivial rfl ?_
 refine xl_nil ?_
 refine x_seq ?_
 refine x_region rfl ?_
 refine x_fld rfl rfl trivial fo_stream_reader_0 rfl ?_
 refine x_ld rfl rfl trivial rfl (Loads.blk1 (v := .pointer (some ⟨q, 0, none⟩)) one_p_wire_Reader hw pK rfl) ?_
 refine x_call rfl rfl trivial cal_wire_Get_uint8 rfl (ct_wire_GetS_uint8 (hw.bring (As := [wrdS q s]) bR) hl) rfl (fun w v11 hv => ?_)
 obtain ⟨rfl, hw⟩ := hv
 rw [← hS1] at hw
 rw [← hk]
 refine x_convE (v := (k : Nat)) rfl rfl trivial (by kernel_rfl) U_uint8 U_int rfl (wrap64 (by omega)) ?_
 refine x_build (v := .agg #[.int .i64 (k : Nat), .slice none 0 0, .slice none 0 0, .slice none 0 0]) rfl rfl trivial rfl (fun w => by kernel_rfl) ?_
 refine x_alloc rfl rfl trivial z_api_Change hw rfl (fun w b8 hw => ?_)
 refine x_stN (cs := [.int .i64 (k : Nat), .slice none 0 0, .slice none 0 0, .slice none 0 0]) (l' := [.int .i64 (k : Nat), .slice none 0 0, .slice none 0 0, .slice none 0 0]) rfl trivial rfl rfl many_api_Change rfl (by intro u hu; simp at hu; rcases hu with rfl | rfl <;> rfl) hw pK (by simp) rfl rfl (fun w hw => ?_)
 refine xl_nil ?_
 refine x_seq ?_
 refine x_region rfl ?_
 refine x_fld rfl rfl trivial fo_stream_reader_0 rfl ?_
 refine x_ld rfl rfl trivial rfl (Loads.blk1 (v := .pointer (some ⟨q, 0, none⟩)) one_p_wire_Reader hw pK rfl) ?_
 refine x_call rfl rfl trivial cal_wire_Reader_Short rfl (ct_wire_ShortS (n := 24) (hw.bring (As := [wrdS q S1]) bR) hl1) rfl (fun w v16 hv => ?_)
 have hw := hv
 rw [← hS2, ← hkey] at hw
 obtain ⟨ka16, kc16, rfl⟩ := row_form hw
 refine x_fld rfl rfl trivial fo_api_Change_1 rfl ?_
 refine x_st1 (l' := [.int .i64 (k : Nat), .slice ka16 key.length kc16, .slice none 0 0, .slice none 0 0]) rfl trivial rfl rfl one_sl_uint8 rfl hw pK rfl rfl rfl (fun w hw => ?_)
 refine xl_nil ?_
 refine x_join (fun e w => ∃ (oa : Option Addr) (oc : Nat), e = [(1, av), (2, .bool wh), (3, .pointer (some ⟨b3, 0, none⟩)), (6, .pointer (some ⟨b6, 0, none⟩)), (8, .pointer (some ⟨b8, 0, none⟩))] ∧ Sat G (wrdS q S3 :: row 5 1 (.slice oa old.length oc) old.length (bys old) :: row 5 1 (.slice ka16 key.length kc16) key.length (bys key) :: blk b8 [.int .i64 (k : Nat), .slice ka16 key.length kc16, .slice oa old.length oc, .slice none 0 0] 68 :: blk b6 [.int .i64 0, .slice none 0 0, .slice none 0 0, .slice none 0 0] 68 :: blk b3 [.pointer (some ⟨q, 0, none⟩)] 111 :: L) w) ?_ ?_
 ·
  refine x_seq ?_
  refine x_region rfl ?_
  refine x_fld rfl rfl trivial fo_api_Change_0 rfl ?_
  refine x_ld rfl rfl trivial rfl (Loads.blk1 (v := .int .i64 (k : Nat)) one_int hw pK rfl) ?_
  refine x_ne rfl rfl trivial (by kernel_rfl) rfl rfl ?_
  refine xl_nil ?_
  refine x_if rfl (fun h1 => ?_) (fun h1 => ?_)
  ·
   refine x_region rfl ?_
   refine x_ld rfl rfl trivial rfl (Loads.blkA (l := [.pointer (some ⟨q, 0, none⟩)]) many_stream_reader hw pK rfl) ?_
   refine x_call rfl rfl trivial cal_stream_reader_value rfl (ct_stream_value (hw.bring (As := [wrdS q S2]) bR) hl2) rfl (fun w v22 hv => ?_)
   have hw := hv
   obtain ⟨oa, oc, rfl⟩ := row_form hw
   refine x_fld rfl rfl trivial fo_api_Change_2 rfl ?_
   refine x_st1 (l' := [.int .i64 (k : Nat), .slice ka16 key.length kc16, .slice oa (valS S2).2.length oc, .slice none 0 0]) rfl trivial rfl rfl one_sl_uint8 rfl hw pK rfl rfl rfl (fun w hw => ?_)
   refine xl_nil ?_
   have hne : ¬ k = 1 := fun h => h1 (by rw [h]; rfl)
   have e1 : oldS k valS S2 = valS S2 := by unfold oldS; rw [if_neg hne]
   rw [e1] at hS3 hold
   rw [← hS3, ← hold] at hw
   exact ⟨[(1, _), (2, _), (3, _), (6, _), (8, _)], sB, oa, oc, rfl, hw.bring (As := [wrdS q S3, row 5 1 (.slice oa _ _) _ _, row 5 1 (.slice ka16 _ _) _ _, blk b8 _ _, blk b6 _ _, blk b3 _ _]) bR⟩
  refine x_skip ?_
  have hne : k = 1 := by have := Decidable.not_not.1 h1; omega
  have e1 : oldS k valS S2 = (S2, []) := by unfold oldS; rw [if_pos hne]
  rw [e1] at hS3 hold
  simp only at hS3 hold
  subst hS3; subst hold
  have hw : Sat G (row 5 1 (.slice none ([] : Bys).length 0) ([] : Bys).length (bys []) :: _) w := row_nil hw 5 1
  have hz := hw.bring (As := [wrdS q S3, row 5 1 (.slice none _ _) _ _, row 5 1 (.slice ka16 _ _) _ _, blk b8 _ _, blk b6 _ _, blk b3 _ _]) bR
  exact ⟨[(1, _), (2, _), (3, _), (6, _), (8, _)], sB, none, 0, rfl, hz⟩
 clear hw
 rintro e w ⟨oa, oc, rfl, hw⟩
 refine x_join (fun e w => ∃ (na : Option Addr) (nc : Nat), e = [(1, av), (2, .bool wh), (3, .pointer (some ⟨b3, 0, none⟩)), (6, .pointer (some ⟨b6, 0, none⟩)), (8, .pointer (some ⟨b8, 0, none⟩))] ∧ Sat G (wrdS q S4 :: row 5 1 (.slice na new.length nc) new.length (bys new) :: row 5 1 (.slice oa old.length oc) old.length (bys old) :: row 5 1 (.slice ka16 key.length kc16) key.length (bys key) :: blk b8 [.int .i64 (k : Nat), .slice ka16 key.length kc16, .slice oa old.length oc, .slice na new.length nc] 68 :: blk b6 [.int .i64 0, .slice none 0 0, .slice none 0 0, .slice none 0 0] 68 :: blk b3 [.pointer (some ⟨q, 0, none⟩)] 111 :: L) w) ?_ ?_
 ·
  refine x_seq ?_
  refine x_region rfl ?_
  refine x_fld rfl rfl trivial fo_api_Change_0 rfl ?_
  refine x_ld rfl rfl trivial rfl (Loads.blk1 (v := .int .i64 (k : Nat)) one_int hw pK rfl) ?_
  refine x_ne rfl rfl trivial (by kernel_rfl) rfl rfl ?_
  refine xl_nil ?_
  refine x_if rfl (fun h2 => ?_) (fun h2 => ?_)
  ·
   refine x_region rfl ?_
   refine x_ld rfl rfl trivial rfl (Loads.blkA (l := [.pointer (some ⟨q, 0, none⟩)]) many_stream_reader hw pK rfl) ?_
   refine x_call rfl rfl trivial cal_stream_reader_value rfl (ct_stream_value hw hl3) rfl (fun w v28 hv => ?_)
   have hw := hv
   obtain ⟨na, nc, rfl⟩ := row_form hw
   refine x_fld rfl rfl trivial fo_api_Change_3 rfl ?_
   refine x_st1 (l' := [.int .i64 (k : Nat), .slice ka16 key.length kc16, .slice oa old.length oc, .slice na (valS S3).2.length nc]) rfl trivial rfl rfl one_sl_uint8 rfl hw pK rfl rfl rfl (fun w hw => ?_)
   refine xl_nil ?_
   have hne : ¬ k = 2 := fun h => h2 (by rw [h]; rfl)
   have e1 : newS k valS S3 = valS S3 := by unfold newS; rw [if_neg hne]
   rw [e1] at hS4 hnew
   rw [← hS4, ← hnew] at hw
   exact ⟨[(1, _), (2, _), (3, _), (6, _), (8, _)], sB, na, nc, rfl, hw.bring (As := [wrdS q S4, row 5 1 (.slice na _ _) _ _, row 5 1 (.slice oa _ _) _ _, row 5 1 (.slice ka16 _ _) _ _, blk b8 _ _, blk b6 _ _, blk b3 _ _]) bR⟩
  refine x_skip ?_
  have hne : k = 2 := by have := Decidable.not_not.1 h2; omega
  have e1 : newS k valS S3 = (S3, []) := by unfold newS; rw [if_pos hne]
  rw [e1] at hS4 hnew
  simp only at hS4 hnew
  subst hS4; subst hnew
  have hw : Sat G (row 5 1 (.slice none ([] : Bys).length 0) ([] : Bys).length (bys []) :: _) w := row_nil hw 5 1
  have hz := hw.bring (As := [wrdS q S4, row 5 1 (.slice none _ _) _ _, row 5 1 (.slice oa _ _) _ _, row 5 1 (.slice ka16 _ _) _ _, blk b8 _ _, blk b6 _ _, blk b3 _ _]) bR
  exact ⟨[(1, _), (2, _), (3, _), (6, _), (8, _)], sB, none, 0, rfl, hz⟩
 clear hw
 rintro e w ⟨na, nc, rfl, hw⟩
 refine x_seq ?_
 refine x_block ?_
 refine x_seq ?_
 refine x_region rfl ?_
 refine x_fld rfl rfl trivial fo_stream_reader_0 rfl ?_
 refine x_ld rfl rfl trivial rfl (Loads.blk1 (v := .pointer (some ⟨q, 0, none⟩)) one_p_wire_Reader hw pK rfl) ?_
 refine x_call rfl rfl trivial cal_wire_Reader_Err rfl (ct_wire_ErrS hw) rfl (fun w v33 hv => ?_)
 obtain ⟨er, rfl, her, hw⟩ := hv
 refine x_ne rfl rfl trivial (by kernel_rfl) rfl rfl ?_
 refine x_mv rfl rfl trivial rfl ?_
 refine xl_and (l1 := [5, 6, 7, 8, 9]) (l2 := [10, 11, 12, 13, 14, 15, 16, 17, 18, 19, 20, 21, 22, 23, 24, 25]) rfl (d := 40) (er ≠ 0 ∨ (key.length : Int) = 0) rfl ?_ ?_
 ·
  refine xl_split (d := 35) rfl (fun h3 => ?_) (fun h3 => ?_)
  ·
   refine xl_no rfl rfl rfl rfl rfl rfl ?_
   refine xl_no rfl rfl rfl rfl rfl rfl ?_
   refine xl_no rfl rfl rfl rfl rfl rfl ?_
   refine xl_no rfl rfl rfl rfl rfl rfl ?_
   refine x_pickT rfl rfl trivial rfl rfl rfl ?_
   refine xl_nil ?_
   refine ⟨rfl, congrArg some (congrArg Value.bool ?_)⟩
   first | exact (decide_eq_false (by omega)).symm | exact (decide_eq_true (by omega)).symm | exact decide_eq_decide.2 (by omega)
  refine x_fld rfl rfl ⟨_, rfl, rfl⟩ fo_api_Change_1 rfl ?_
  refine x_ld rfl rfl ⟨_, rfl, rfl⟩ rfl (Loads.blk1 (v := .slice ka16 key.length kc16) one_sl_uint8 hw pK rfl) ?_
  refine x_len rfl rfl ⟨_, rfl, rfl⟩ (by kernel_rfl) U_sl_uint8 rfl ?_
  refine x_eq rfl rfl ⟨_, rfl, rfl⟩ (by kernel_rfl) rfl rfl ?_
  refine x_pickF rfl rfl trivial rfl rfl rfl ?_
  refine xl_nil ?_
  refine ⟨rfl, congrArg some (congrArg Value.bool ?_)⟩
  first | exact (decide_eq_false (by omega)).symm | exact (decide_eq_true (by omega)).symm | exact decide_eq_decide.2 (by omega)
 refine x_mv rfl rfl trivial rfl ?_
 refine xl_split (d := 41) rfl (fun h4 => ?_) (fun h4 => ?_)
 ·
  refine xl_no rfl rfl rfl rfl rfl rfl ?_
  refine xl_no rfl rfl rfl rfl rfl rfl ?_
  refine xl_no rfl rfl rfl rfl rfl rfl ?_
  refine xl_no rfl rfl rfl rfl rfl rfl ?_
  refine xl_no rfl rfl rfl rfl rfl rfl ?_
  refine x_pickT rfl rfl trivial rfl rfl rfl ?_
  refine x_mv rfl rfl trivial rfl ?_
  refine xl_no rfl rfl rfl rfl rfl rfl ?_
  refine xl_no rfl rfl rfl rfl rfl rfl ?_
  refine xl_none rfl rfl rfl rfl rfl ?_
  refine xl_none rfl rfl rfl rfl rfl ?_
  refine xl_none rfl rfl rfl rfl rfl ?_
  refine xl_no rfl rfl rfl rfl rfl rfl ?_
  refine x_pickT rfl rfl trivial rfl rfl rfl ?_
  refine x_as rfl rfl trivial rfl ?_
  refine xl_nil ?_
  refine x_cond_true rfl ?_
  refine x_seq ?_
  refine x_region rfl ?_
  refine x_ld rfl rfl trivial rfl (Loads.blkA (l := [.int .i64 (k : Nat), .slice ka16 key.length kc16, .slice oa old.length oc, .slice na new.length nc]) many_api_Change hw pK rfl) ?_
  refine x_stN (cs := [.int .i64 (k : Nat), .slice ka16 key.length kc16, .slice oa old.length oc, .slice na new.length nc]) (l' := [.int .i64 (k : Nat), .slice ka16 key.length kc16, .slice oa old.length oc, .slice na new.length nc]) rfl trivial rfl rfl many_api_Change rfl (by intro u hu; simp at hu; rcases hu with rfl | rfl | rfl | rfl <;> rfl) hw pK (by simp) rfl rfl (fun w hw => ?_)
  refine x_as rfl rfl trivial rfl ?_
  refine xl_nil ?_
  refine x_ret ?_
  exact end2 rfl rfl ⟨_, rfl, (Loads.blkA (l := [.int .i64 (k : Nat), .slice ka16 key.length kc16, .slice oa old.length oc, .slice na new.length nc]) many_api_Change hw pK rfl)⟩ rfl (hfin ka16 oa na kc16 oc nc b3 b6 b8 _ _ false w (by
     symm; rw [decide_eq_false_iff_not]; rintro ⟨g1, -, ⟨g2, -⟩, -⟩
     rcases h4 with h4 | h4
     ·exact g1 (her.1 h4)
     ·exact g2 (List.eq_nil_of_length_eq_zero (by show key.length = 0; omega))) (hw.bring (As := [wrdS q S4, row 5 1 (.slice na _ _) _ _, row 5 1 (.slice oa _ _) _ _, row 5 1 (.slice ka16 _ _) _ _, blk b8 _ _, blk b6 _ _, blk b3 _ _]) bR))
 refine x_fld rfl rfl ⟨_, rfl, rfl⟩ fo_api_Change_1 rfl ?_
 refine x_ld rfl rfl ⟨_, rfl, rfl⟩ rfl (Loads.blk1 (v := .slice ka16 key.length kc16) one_sl_uint8 hw pK rfl) ?_
 refine x_mv rfl rfl ⟨_, rfl, rfl⟩ rfl ?_
 refine x_call rfl rfl ⟨_, rfl, rfl⟩ cal_span_Compare rfl (ct_span_Compare hw (rowB (l := key) rfl pK) (ka.of sF)) rfl (fun w v45 hv => ?_)
 obtain ⟨rfl, hw⟩ := hv
 refine x_le rfl rfl ⟨_, rfl, rfl⟩ rfl rfl ?_
 refine x_pickF rfl rfl trivial rfl rfl rfl ?_
 refine x_mv rfl rfl trivial rfl ?_
 refine xl_and (l1 := [18, 19, 20, 21, 22, 23, 24]) (l2 := [25]) rfl (d := 55) (cmpB key ahead ≤ 0 ∨ (wh = true ∧ (k : Int) ≠ 1)) rfl ?_ ?_
 ·
  refine xl_split (d := 48) rfl (fun h5 => ?_) (fun h5 => ?_)
  ·
   refine xl_no rfl rfl rfl rfl rfl rfl ?_
   refine xl_no rfl rfl rfl rfl rfl rfl ?_
   refine xl_none rfl rfl rfl rfl rfl ?_
   refine xl_none rfl rfl rfl rfl rfl ?_
   refine xl_none rfl rfl rfl rfl rfl ?_
   refine xl_no rfl rfl rfl rfl rfl rfl ?_
   refine x_pickT rfl rfl trivial rfl rfl rfl ?_
   refine xl_nil ?_
   refine ⟨rfl, congrArg some (congrArg Value.bool ?_)⟩
   first | exact (decide_eq_true (Or.inl (by assumption))).symm | exact decide_eq_decide.2 ⟨fun h => .inr ⟨by assumption, h⟩, fun h => (h.resolve_left (by assumption)).2⟩ | exact (decide_eq_false (fun h => absurd (h.resolve_left (by assumption)).1 (by assumption))).symm
  refine x_mv rfl rfl ⟨_, rfl, rfl⟩ rfl ?_
  refine x_mv rfl rfl ⟨_, rfl, rfl⟩ rfl ?_
  refine xl_split (d := 50) (p := wh = true) (by rw [Bool.decide_coe]; rfl) (fun h6 => ?_) (fun h6 => ?_)
  ·
   refine x_fld rfl rfl ⟨_, rfl, rfl⟩ fo_api_Change_0 rfl ?_
   refine x_ld rfl rfl ⟨_, rfl, rfl⟩ rfl (Loads.blk1 (v := .int .i64 (k : Nat)) one_int hw pK rfl) ?_
   refine x_ne rfl rfl ⟨_, rfl, rfl⟩ (by kernel_rfl) rfl rfl ?_
   refine x_pickT rfl rfl ⟨_, rfl, rfl⟩ rfl rfl rfl ?_
   refine x_pickF rfl rfl trivial rfl rfl rfl ?_
   refine xl_nil ?_
   refine ⟨rfl, congrArg some (congrArg Value.bool ?_)⟩
   first | exact (decide_eq_true (Or.inl (by assumption))).symm | exact decide_eq_decide.2 ⟨fun h => .inr ⟨by assumption, h⟩, fun h => (h.resolve_left (by assumption)).2⟩ | exact (decide_eq_false (fun h => absurd (h.resolve_left (by assumption)).1 (by assumption))).symm
  refine xl_no rfl rfl rfl rfl rfl rfl ?_
  refine xl_no rfl rfl rfl rfl rfl rfl ?_
  refine xl_no rfl rfl rfl rfl rfl rfl ?_
  refine x_pickF rfl rfl ⟨_, rfl, rfl⟩ rfl rfl rfl ?_
  refine x_pickF rfl rfl trivial rfl rfl rfl ?_
  refine xl_nil ?_
  refine ⟨rfl, congrArg some (congrArg Value.bool ?_)⟩
  first | exact (decide_eq_true (Or.inl (by assumption))).symm | exact decide_eq_decide.2 ⟨fun h => .inr ⟨by assumption, h⟩, fun h => (h.resolve_left (by assumption)).2⟩ | exact (decide_eq_false (fun h => absurd (h.resolve_left (by assumption)).1 (by assumption))).symm
 refine x_as rfl rfl trivial rfl ?_
 refine xl_nil ?_
 refine x_if rfl (fun h7 => ?_) (fun h7 => ?_)
 ·
  refine x_seq ?_
  refine x_region rfl ?_
  refine x_ld rfl rfl trivial rfl (Loads.blkA (l := [.int .i64 (k : Nat), .slice ka16 key.length kc16, .slice oa old.length oc, .slice na new.length nc]) many_api_Change hw pK rfl) ?_
  refine x_stN (cs := [.int .i64 (k : Nat), .slice ka16 key.length kc16, .slice oa old.length oc, .slice na new.length nc]) (l' := [.int .i64 (k : Nat), .slice ka16 key.length kc16, .slice oa old.length oc, .slice na new.length nc]) rfl trivial rfl rfl many_api_Change rfl (by intro u hu; simp at hu; rcases hu with rfl | rfl | rfl | rfl <;> rfl) hw pK (by simp) rfl rfl (fun w hw => ?_)
  refine x_as rfl rfl trivial rfl ?_
  refine xl_nil ?_
  refine x_ret ?_
  exact end2 rfl rfl ⟨_, rfl, (Loads.blkA (l := [.int .i64 (k : Nat), .slice ka16 key.length kc16, .slice oa old.length oc, .slice na new.length nc]) many_api_Change hw pK rfl)⟩ rfl (hfin ka16 oa na kc16 oc nc b3 b6 b8 _ _ false w (by
      symm; rw [decide_eq_false_iff_not]; rintro ⟨g1, ⟨-, -, g3⟩, ⟨-, g2⟩, -⟩
      have g2 : 0 < cmpB key ahead := g2
      rcases h7 with h7 | ⟨h7, h8⟩
      ·omega
      ·exact h8 (by have : k = 1 := g3 h7
                    rw [this]; rfl)) (hw.bring (As := [wrdS q S4, row 5 1 (.slice na _ _) _ _, row 5 1 (.slice oa _ _) _ _, row 5 1 (.slice ka16 _ _) _ _, blk b8 _ _, blk b6 _ _, blk b3 _ _]) bR))
 have hS4n : S4 ≠ none := fun h => h4 (.inl (her.2 h))
 have hkn : key ≠ [] := fun h => h4 (.inr (by rw [h]; rfl))
 have hc : 0 < cmpB key ahead := by
  have := fun h => h7 (.inl h)
  omega
 have hw1 : wh = true → k = 1 := fun h => by
  have : ¬ ((k : Int) ≠ 1) := fun h' => h7 (.inr ⟨h, h'⟩)
  omega
 refine x_seq ?_
 refine x_region rfl ?_
 refine x_fld rfl rfl trivial fo_api_Change_0 rfl ?_
 refine x_ld rfl rfl trivial rfl (Loads.blk1 (v := .int .i64 (k : Nat)) one_int hw pK rfl) ?_
 refine x_eq rfl rfl trivial (by kernel_rfl) rfl rfl ?_
 refine x_as rfl rfl trivial rfl ?_
 refine xl_nil ?_
 refine x_if rfl (fun h8 => ?_) (fun h8 => ?_)
 ·
  refine x_seq ?_
  refine x_draw [0, 1, 2, 3, 4, 5, 6, 7, 8, 9] mixed (by kernel_rfl) ?_
  replace hw := hw.drawn (w.drawn + 1)
  refine x_ld rfl rfl trivial rfl (Loads.blkA (l := [.int .i64 (k : Nat), .slice ka16 key.length kc16, .slice oa old.length oc, .slice na new.length nc]) many_api_Change hw pK rfl) ?_
  refine x_fld rfl rfl trivial fo_api_Change_2 rfl ?_
  refine x_ld rfl rfl trivial rfl (Loads.blk1 (v := .slice oa old.length oc) one_sl_uint8 hw pK rfl) ?_
  refine x_tx (l := old) rfl rfl trivial (by kernel_rfl) U_sl_uint8 U_uint8 U_string rfl ((rowB rfl pK).at hw) ?_
  refine x_fld rfl rfl trivial fo_api_Change_3 rfl ?_
  refine x_ld rfl rfl trivial rfl (Loads.blk1 (v := .slice na new.length nc) one_sl_uint8 hw pK rfl) ?_
  refine x_tx (l := new) rfl rfl trivial (by kernel_rfl) U_sl_uint8 U_uint8 U_string rfl ((rowB rfl pK).at hw) ?_
  refine x_neS (a := old) (b := new) rfl rfl trivial (by kernel_rfl) rfl rfl ?_
  refine x_stNP (cs := [.int .i64 (k : Nat), .slice ka16 key.length kc16, .slice oa old.length oc, .slice na new.length nc]) (l' := [.int .i64 (k : Nat), .slice ka16 key.length kc16, .slice oa old.length oc, .slice na new.length nc]) rfl trivial rfl rfl many_api_Change rfl (by intro u hu; simp at hu; rcases hu with rfl | rfl | rfl | rfl <;> rfl) hw pK (by simp) rfl (fun w hw q' hq => ?_) (fun w hw => ?_)
  ·
   have hq := pend_mem (l := [6, 5, 3, 2]) (by kernel_rfl) hq
   simp only [List.mem_cons, List.not_mem_nil, or_false] at hq
   rcases hq with rfl | rfl | rfl | rfl
   ·exact chk_tx (l := new) rfl U_sl_uint8 U_uint8 U_string rfl rfl ((rowB rfl pK).at hw)
   ·exact chk_ld rfl rfl rfl (Loads.blk1 (v := .slice na new.length nc) one_sl_uint8 hw pK rfl)
   ·exact chk_tx (l := old) rfl U_sl_uint8 U_uint8 U_string rfl rfl ((rowB rfl pK).at hw)
   exact chk_ld rfl rfl rfl (Loads.blk1 (v := .slice oa old.length oc) one_sl_uint8 hw pK rfl)
  refine x_as rfl rfl trivial rfl ?_
  refine xl_nil ?_
  refine x_ret ?_
  exact end2 rfl rfl ⟨_, rfl, (Loads.blkA (l := [.int .i64 (k : Nat), .slice ka16 key.length kc16, .slice oa old.length oc, .slice na new.length nc]) many_api_Change hw pK rfl)⟩ rfl (hfin ka16 oa na kc16 oc nc b3 b6 b8 _ _ _ w (decide_eq_decide.2 ⟨fun h => ⟨hS4n, ⟨by show 1 ≤ k; omega, by show k ≤ 3; omega, hw1⟩, ⟨hkn, hc⟩, fun _ => h⟩, fun h => h.2.2.2 (by show k = 3; omega)⟩) (hw.bring (As := [wrdS q S4, row 5 1 (.slice na _ _) _ _, row 5 1 (.slice oa _ _) _ _, row 5 1 (.slice ka16 _ _) _ _, blk b8 _ _, blk b6 _ _, blk b3 _ _]) bR))
 refine x_skip ?_
 refine x_seq ?_
 refine x_draw [0, 1, 2, 3, 4, 5, 6, 7, 8, 9, 10] mixed (by kernel_rfl) ?_
 replace hw := hw.drawn (w.drawn + 1)
 refine x_ld rfl rfl trivial rfl (Loads.blkA (l := [.int .i64 (k : Nat), .slice ka16 key.length kc16, .slice oa old.length oc, .slice na new.length nc]) many_api_Change hw pK rfl) ?_
 refine x_fld rfl rfl trivial fo_api_Change_0 rfl ?_
 refine x_ld rfl rfl trivial rfl (Loads.blk1 (v := .int .i64 (k : Nat)) one_int hw pK rfl) ?_
 refine x_eq rfl rfl trivial (by kernel_rfl) rfl rfl ?_
 refine x_mv rfl rfl trivial rfl ?_
 refine xl_split (d := 73) rfl (fun h9 => ?_) (fun h9 => ?_)
 ·
  refine xl_no rfl rfl rfl rfl rfl rfl ?_
  refine xl_no rfl rfl rfl rfl rfl rfl ?_
  refine xl_no rfl rfl rfl rfl rfl rfl ?_
  refine x_pickT rfl rfl trivial rfl rfl rfl ?_
  refine x_stNP (cs := [.int .i64 (k : Nat), .slice ka16 key.length kc16, .slice oa old.length oc, .slice na new.length nc]) (l' := [.int .i64 (k : Nat), .slice ka16 key.length kc16, .slice oa old.length oc, .slice na new.length nc]) rfl trivial rfl rfl many_api_Change rfl (by intro u hu; simp at hu; rcases hu with rfl | rfl | rfl | rfl <;> rfl) hw pK (by simp) rfl (fun w hw q' hq => ?_) (fun w hw => ?_)
  ·
   have hq := pend_mem (l := [6]) (by kernel_rfl) hq
   simp only [List.mem_cons, List.not_mem_nil, or_false] at hq
   subst hq
   exact chk_not rfl rfl rfl rfl rfl
  refine x_as rfl rfl trivial rfl ?_
  refine xl_nil ?_
  refine x_ret ?_
  exact end2 rfl rfl ⟨_, rfl, (Loads.blkA (l := [.int .i64 (k : Nat), .slice ka16 key.length kc16, .slice oa old.length oc, .slice na new.length nc]) many_api_Change hw pK rfl)⟩ rfl (hfin ka16 oa na kc16 oc nc b3 b6 b8 _ _ _ w (by
        symm; rw [decide_eq_true_eq]
        exact ⟨hS4n, ⟨by show 1 ≤ k; omega, by show k ≤ 3; omega, hw1⟩, ⟨hkn, hc⟩, fun h3 => absurd (show k = 3 from h3) (by omega)⟩) (hw.bring (As := [wrdS q S4, row 5 1 (.slice na _ _) _ _, row 5 1 (.slice oa _ _) _ _, row 5 1 (.slice ka16 _ _) _ _, blk b8 _ _, blk b6 _ _, blk b3 _ _]) bR))
 refine x_fld rfl rfl ⟨_, rfl, rfl⟩ fo_api_Change_0 rfl ?_
 refine x_ld rfl rfl ⟨_, rfl, rfl⟩ rfl (Loads.blk1 (v := .int .i64 (k : Nat)) one_int hw pK rfl) ?_
 refine x_eq rfl rfl ⟨_, rfl, rfl⟩ (by kernel_rfl) rfl rfl ?_
 refine x_pickF rfl rfl trivial rfl rfl rfl ?_
 refine x_stNP (cs := [.int .i64 (k : Nat), .slice ka16 key.length kc16, .slice oa old.length oc, .slice na new.length nc]) (l' := [.int .i64 (k : Nat), .slice ka16 key.length kc16, .slice oa old.length oc, .slice na new.length nc]) rfl trivial rfl rfl many_api_Change rfl (by intro u hu; simp at hu; rcases hu with rfl | rfl | rfl | rfl <;> rfl) hw pK (by simp) rfl (fun w hw q' hq => ?_) (fun w hw => ?_)
 ·
  have hq := pend_mem (l := [6]) (by kernel_rfl) hq
  simp only [List.mem_cons, List.not_mem_nil, or_false] at hq
  subst hq
  exact chk_ld rfl rfl rfl (Loads.blk1 (v := .int .i64 (k : Nat)) one_int hw pK rfl)
 refine x_as rfl rfl trivial rfl ?_
 refine xl_nil ?_
 refine x_ret ?_
 exact end2 rfl rfl ⟨_, rfl, (Loads.blkA (l := [.int .i64 (k : Nat), .slice ka16 key.length kc16, .slice oa old.length oc, .slice na new.length nc]) many_api_Change hw pK rfl)⟩ rfl (hfin ka16 oa na kc16 oc nc b3 b6 b8 _ _ _ w (decide_eq_decide.2 ⟨fun h => ⟨hS4n, ⟨by show 1 ≤ k; omega, by show k ≤ 3; omega, hw1⟩, ⟨hkn, hc⟩, fun h3 => absurd (show k = 3 from h3) (by omega)⟩, fun h => by
        have g1 : 1 ≤ k := h.2.1.1
        have g2 : k ≤ 3 := h.2.1.2.1
        omega⟩) (hw.bring (As := [wrdS q S4, row 5 1 (.slice na _ _) _ _, row 5 1 (.slice oa _ _) _ _, row 5 1 (.slice ka16 _ _) _ _, blk b8 _ _, blk b6 _ _, blk b3 _ _]) bR))
end
theorem map3s {α β : Type} {f : α → β} {l : List α} {a b c : β} (h : l.map f = [a, b, c]) : ∃ x y z, l = [x, y, z] ∧ f x = a ∧ f y = b ∧ f z = c := by
 match l, h with
 | [x, y, z], h => simp at h; exact ⟨x, y, z, rfl, h.1, h.2.1, h.2.2⟩
def hdC (h : Hd) : List Value := [.bool h.whole, .int .i64 (h.base.items : Nat), .int .i64 (h.base.bytes : Nat), .int .u32 (h.base.sum : Nat), .int .i64 (h.mark.items : Nat), .int .i64 (h.mark.bytes : Nat), .int .u32 (h.mark.sum : Nat), .int .i64 (h.changes : Nat)]
theorem hdC_ones (h : Hd) : Ones (hdC h) := by intro u hu; simp [hdC] at hu; rcases hu with rfl | rfl | rfl | rfl | rfl | rfl | rfl | rfl <;> rfl
theorem run_eq_mk (d : Nat) (w : World) (a : Mk) : (Op.equalIn (d + 2) 28 (.agg (mkC a).toArray) (.agg (mkC noMk).toArray)).run Tryz.prog w = .ok (decide (a = noMk)) w := by
 have hf : ((Tryz.prog.fieldsOf 28).toList.map fun f => (f.name != "_", f.type, f.offset)) = [(true, 3, 0), (true, 3, 1), (true, 26, 2)] := by kernel_rfl
 obtain ⟨f1, f2, f3, h, h1, h2, h3⟩ := map3s hf
 have hu : Tryz.prog.underlying 3 = some (.int .i64) := U_int
 have hu' : Tryz.prog.underlying 26 = some (.int .u32) := U_uint32
 simp only [Prod.mk.injEq, bne_iff_ne, ne_eq] at h1 h2 h3
 have hp : ∀ (xs : Array Value) (o : Nat) (v : Value) (w : World), xs[o]? = some v → (part 3 xs o).run Tryz.prog w = .ok v w := by
  intro xs o v w hv
  exact run_part_plain w (by kernel_rfl) hv
 have hp' : ∀ (xs : Array Value) (o : Nat) (v : Value) (w : World), xs[o]? = some v → (part 26 xs o).run Tryz.prog w = .ok v w := by
  intro xs o v w hv
  exact run_part_plain w (by kernel_rfl) hv
 rw [run_equalIn_agg _ _ _ _ _ (by kernel_rfl) (by kernel_rfl), h]
 obtain ⟨i, b, s⟩ := a
 by_cases g1 : i = 0
 ·by_cases g2 : b = 0
  ·by_cases g3 : s = 0 <;> simp [Op.eqFields, h1, h2, h3, hp, hp', mkC, noMk, run_equalIn_int _ _ _ _ _ _ _ hu, run_equalIn_int _ _ _ _ _ _ _ hu', g1, g2, g3]
  simp [Op.eqFields, h1, h2, h3, hp, hp', mkC, noMk, run_equalIn_int _ _ _ _ _ _ _ hu, run_equalIn_int _ _ _ _ _ _ _ hu', g1, g2]
 simp [Op.eqFields, h1, h2, h3, hp, hp', mkC, noMk, run_equalIn_int _ _ _ _ _ _ _ hu, run_equalIn_int _ _ _ _ _ _ _ hu', g1]
theorem run_ne_ok2 (x y : Operand) (a b : Bool) (w : World) : (do eqGuard .neq 113 x y (.agg #[.bool a, .bool b]) (.agg #[.bool true, .bool true]); binOp .neq 113 (.agg #[.bool a, .bool b]) (.agg #[.bool true, .bool true]) : Sem Value).run Tryz.prog w = .ok (.bool (decide (¬ (a = true ∧ b = true)))) w := by
 rw [Sem.run_bind, run_eqGuard_agg w _ _ _ _ _ _ (by kernel_rfl), Result.andThen_ok]
 cases a <;> cases b <;> kernel_rfl
theorem oldS_le {N k : Nat} {val : RdS → RdS × Bys} {s : RdS} (h : LeS N s) (hv : ∀ s, LeS N s → LeS N (val s).1) : LeS N (oldS k val s).1 := by
 unfold oldS; split
 ·exact h
 exact hv s h
theorem newS_le {N k : Nat} {val : RdS → RdS × Bys} {s : RdS} (h : LeS N s) (hv : ∀ s, LeS N s → LeS N (val s).1) : LeS N (newS k val s).1 := by
 unfold newS; split
 ·exact h
 exact hv s h
theorem chG_lt {val : RdS → RdS × Bys} (hv : ∀ N s, LeS N s → LeS N (val s).1) (h0 : (val none).1 = none) {s r : Bys} (h : (chG val (some s)).1 = some r) : r.length < s.length := by
 cases s with
 | nil =>
  unfold chG at h
  have e : getS 1 (some ([] : Bys)) = (none, 0) := by simp [getS]
  rw [e] at h
  simp [oldS, newS, shortS, h0] at h
 | cons x s =>
  have h1 : LeS s.length (getS 1 (some (x :: s))).1 := fun b hb => by
   simp [getS] at hb; rw [← hb]; exact Nat.le_refl _
  have h2 : LeS s.length (chG val (some (x :: s))).1 := newS_le (oldS_le (shortS_le h1) (hv _)) (hv _)
  have := h2 r h
  simp only [List.length_cons]; omega
theorem chG_small {val : RdS → RdS × Bys} (hl : ∀ s, (val s).2.length ≤ 65535) (s : RdS) : Sml (chG val s).2.key ∧ Sml (chG val s).2.old ∧ Sml (chG val s).2.new := by
 unfold Sml
 refine ⟨Nat.le_trans shortS_len (by decide), ?_, ?_⟩
 ·show (oldS _ val _).2.length ≤ _
  unfold oldS; split
  ·exact Nat.zero_le _
  exact hl _
 show (newS _ val _).2.length ≤ _
 unfold newS; split
 ·exact Nat.zero_le _
 exact hl _
section
variable {G : Gh} {L R : List Assn} {w : World} {q : Nat} {b : Bys}
theorem ones_ch {x : ChV} (hw : Sat G (both (chParts x) :: L) w) : Ones x.cells := by
 have h := hw.both_out
 obtain ⟨a, c, h1⟩ := row_form (show Sat G (row 5 1 x.kv x.c.key.length (bys x.c.key) :: row 5 1 x.ov x.c.old.length (bys x.c.old) :: row 5 1 x.nv x.c.new.length (bys x.c.new) :: L) w from h)
 obtain ⟨a', c', h2⟩ := row_form (show Sat G (row 5 1 x.ov x.c.old.length (bys x.c.old) :: row 5 1 x.nv x.c.new.length (bys x.c.new) :: L) w from h.tail)
 obtain ⟨a2, c2, h3⟩ := row_form (show Sat G (row 5 1 x.nv x.c.new.length (bys x.c.new) :: L) w from h.tail.tail)
 intro u hu
 simp only [ChV.cells, h1, h2, h3, List.mem_cons, List.not_mem_nil, or_false] at hu
 rcases hu with rfl | rfl | rfl | rfl <;> rfl
def LastOk (l : List ChV) (lv : Value) (lk : Bys) : Prop := (lv = .slice none 0 0 ∧ lk = []) ∨ ∃ x ∈ l, x.kv = lv ∧ x.c.key = lk
theorem LastOk.knows {l : List ChV} {lv : Value} {lk : Bys} (h : LastOk l lv lk) (hs : ChsSm l) {R' : List Assn} (hp : Pick (both (l.flatMap chParts)) L R') : Knows L (SlB lv lk) := by
 rcases h with ⟨rfl, rfl⟩ | ⟨x, hx, rfl, rfl⟩
 ·exact fun g w hw => .inl ⟨⟨none, rfl⟩, rfl⟩
 exact ((chs_it hs hx).k.head _).pick hp
theorem ct_stream_read_1 {er : Int} (hw : Sat G L w) : Calls Tryz.prog 39 #[.int .i64 er] w (Ret fun r w' => r = .tuple #[.agg (hdC noHd).toArray, .slice none 0 0, .int .i64 er] ∧ Sat G L w') := by
 refine calls_of_x (args := [_]) Tryz.func39 rfl Tryz.ntmps39 rfl rfl ?_
 refine x_seq ?_
 refine x_region rfl ?_
 refine x_alloc rfl rfl trivial z_api_Head hw rfl (fun w b2 hw => ?_)
 refine x_as rfl rfl trivial rfl ?_
 refine x_as rfl rfl trivial rfl ?_
 refine xl_nil ?_
 refine x_seq ?_
 refine x_region rfl ?_
 refine x_build (v := .agg (hdC noHd).toArray) rfl rfl trivial rfl (fun w => by kernel_rfl) ?_
 refine x_mv rfl rfl trivial rfl ?_
 refine x_stN (cs := hdC noHd) (l' := hdC noHd) rfl trivial rfl rfl many_api_Head rfl (hdC_ones _) hw pK (by simp [hdC]) rfl rfl (fun w hw => ?_)
 refine x_as rfl rfl trivial rfl ?_
 refine x_as rfl rfl trivial rfl ?_
 refine xl_nil ?_
 refine x_ret ?_
 exact end3 rfl rfl ⟨_, rfl, (Loads.blkA (l := hdC noHd) many_api_Head hw pK rfl)⟩ rfl rfl ⟨rfl, hw.tail⟩
theorem ct_stream_read {v : Value} {b : Bys} (hw : Sat G L w) (kb : Knows L (SlB v b)) : Calls Tryz.prog 19 #[v] w (Ret fun r w' => ∃ (u : Value) (l : List ChV), l.map ChV.c = (readP b).2.2 ∧ ChsSm l ∧ r = .tuple #[.agg (hdC (readP b).2.1).toArray, u, .int .i64 ((readP b).1 : Nat)] ∧ Sat G (row 68 4 u l.length (l.map ChV.cells).flatten :: both (l.flatMap chParts) :: L) w') := by
 obtain ⟨va, vc, rfl⟩ := (kb.at hw).form
 have hrf : ∀ (er : Nat) (w' : World), readP b = (er, noHd, []) → Sat G L w' → ∃ (u : Value) (l : List ChV), l.map ChV.c = (readP b).2.2 ∧ ChsSm l ∧ Value.tuple #[.agg (hdC noHd).toArray, .slice none 0 0, .int .i64 (er : Nat)] = .tuple #[.agg (hdC (readP b).2.1).toArray, u, .int .i64 ((readP b).1 : Nat)] ∧ Sat G (row 68 4 u l.length (l.map ChV.cells).flatten :: both (l.flatMap chParts) :: L) w' := fun er w' hr hw' => by
  rw [hr]
  exact ⟨.slice none 0 0, [], rfl, ⟨fun x hx => (by cases hx), by simp⟩, rfl, row_nil (Sat.both_in (M := []) hw') 68 4⟩
 refine calls_of_x (args := [_]) Tryz.func19 rfl Tryz.ntmps19 rfl rfl ?_
 refine x_seq ?_
 refine x_region rfl ?_
 refine x_alloc rfl rfl trivial z_api_Head hw rfl (fun w b2 hw => ?_)
 refine x_as rfl rfl trivial rfl ?_
 refine x_as rfl rfl trivial rfl ?_
 refine xl_nil ?_
 refine x_seq ?_
 refine x_region rfl ?_
 refine x_as rfl rfl trivial rfl ?_
 refine xl_nil ?_
 refine x_seq ?_
 refine x_block ?_
 refine x_seq ?_
 refine x_region rfl ?_
 refine x_mv rfl rfl trivial rfl ?_
 refine x_len rfl rfl trivial (by kernel_rfl) U_sl_uint8 rfl ?_
 refine x_gt rfl rfl trivial rfl rfl ?_
 refine x_as rfl rfl trivial rfl ?_
 refine xl_nil ?_
 refine x_if rfl (fun h1 => ?_) (fun h1 => ?_)
 ·
  refine x_seq ?_
  refine x_region rfl ?_
  refine x_mv rfl rfl trivial rfl ?_
  refine x_callv rfl rfl trivial rfl cal_stream_read_1 rfl rfl (ct_stream_read_1 hw) rfl (fun w v22 hv => ?_)
  obtain ⟨rfl, hw⟩ := hv
  refine x_ext rfl rfl trivial rfl rfl ?_
  refine x_ext rfl rfl trivial rfl rfl ?_
  refine x_ext rfl rfl trivial rfl rfl ?_
  refine x_stN (cs := hdC noHd) (l' := hdC noHd) rfl trivial rfl rfl many_api_Head rfl (hdC_ones _) hw pK (by simp [hdC]) rfl rfl (fun w hw => ?_)
  refine x_as rfl rfl trivial rfl ?_
  refine x_as rfl rfl trivial rfl ?_
  refine xl_nil ?_
  refine x_ret ?_
  exact end3 rfl rfl ⟨_, rfl, (Loads.blkA (l := hdC noHd) many_api_Head hw pK rfl)⟩ rfl rfl (hrf 4 w (by unfold readP; rw [if_pos (by omega)]) hw.tail)
 refine x_seq ?_
 refine x_region rfl ?_
 refine x_mv rfl rfl trivial rfl ?_
 refine x_len rfl rfl trivial (by kernel_rfl) U_sl_uint8 rfl ?_
 refine x_lt rfl rfl trivial rfl rfl ?_
 refine x_as rfl rfl trivial rfl ?_
 refine xl_nil ?_
 refine x_if rfl (fun h2 => ?_) (fun h2 => ?_)
 ·
  refine x_seq ?_
  refine x_region rfl ?_
  refine x_mv rfl rfl trivial rfl ?_
  refine x_callv rfl rfl trivial rfl cal_stream_read_1 rfl rfl (ct_stream_read_1 hw) rfl (fun w v31 hv => ?_)
  obtain ⟨rfl, hw⟩ := hv
  refine x_ext rfl rfl trivial rfl rfl ?_
  refine x_ext rfl rfl trivial rfl rfl ?_
  refine x_ext rfl rfl trivial rfl rfl ?_
  refine x_stN (cs := hdC noHd) (l' := hdC noHd) rfl trivial rfl rfl many_api_Head rfl (hdC_ones _) hw pK (by simp [hdC]) rfl rfl (fun w hw => ?_)
  refine x_as rfl rfl trivial rfl ?_
  refine x_as rfl rfl trivial rfl ?_
  refine xl_nil ?_
  refine x_ret ?_
  exact end3 rfl rfl ⟨_, rfl, (Loads.blkA (l := hdC noHd) many_api_Head hw pK rfl)⟩ rfl rfl (hrf 2 w (by unfold readP; rw [if_neg (by omega), if_pos (by omega)]) hw.tail)
 have hlo : b.length ≤ 16777216 := by omega
 have hhi : 37 ≤ b.length := by omega
 obtain ⟨vb, vo, rfl⟩ := (kb.at hw.tail).nn (by omega)
 have k0 := kb.at hw.tail
 have hPl : ∀ a : Addr, some (⟨vb, vo, none⟩ : Addr) = some a → a.spot = none := fun a ha => by cases ha; rfl
 refine x_skip ?_
 refine x_seq ?_
 refine x_region rfl ?_
 refine x_mv rfl rfl trivial rfl ?_
 refine x_mv rfl rfl trivial rfl ?_
 refine x_len rfl rfl trivial (by kernel_rfl) U_sl_uint8 rfl ?_
 refine x_subi rfl rfl trivial rfl rfl (by omega) ?_
 refine x_cutHB (b := b) rfl rfl trivial U_sl_uint8 sz_uint8 rfl rfl k0 ⟨by omega, by omega⟩ hPl (fun v39 e39 h39 => ?_)
 have ei : ((b.length : Int) - 4).toNat = b.length - 4 := by omega
 rw [ei] at e39 h39
 obtain ⟨a, ha⟩ : ∃ a, a = b.take (b.length - 4) := ⟨_, rfl⟩
 have hal : a.length = b.length - 4 := by rw [ha, List.length_take]; omega
 rw [← ha] at h39
 have kA : Knows L (SlB v39 a) := fun g w hw => h39 w (kb g w hw)
 rw [← hal] at e39
 subst e39
 refine x_as rfl rfl trivial rfl ?_
 refine xl_nil ?_
 refine x_seq ?_
 refine x_seq ?_
 refine x_region rfl ?_
 refine x_mv rfl rfl trivial rfl ?_
 refine x_mv rfl rfl trivial rfl ?_
 refine x_len rfl rfl trivial (by kernel_rfl) U_sl_uint8 rfl ?_
 refine x_cutLB (b := b) rfl rfl trivial U_sl_uint8 sz_uint8 rfl rfl k0 ⟨by omega, by omega⟩ (fun v43 h43 p43 => ?_)
 rw [Int.toNat_natCast, hal] at h43
 have kB : Knows L (SlB v43 (b.drop (b.length - 4))) := fun g w hw => h43 w (kb g w hw)
 refine x_call rfl rfl trivial cal_wire_NewReader rfl (ct_wire_NewReader hw (kB.of sF) (by rw [List.length_drop]; omega)) rfl (fun w v44 hv => ?_)
 obtain ⟨q1, rfl, hw⟩ := hv
 refine x_call rfl rfl trivial cal_wire_Get_uint32 rfl (ct_get32 hw (by rw [List.length_drop]; omega) (by rw [List.length_drop]; omega)) rfl (fun w v45 hv => ?_)
 obtain ⟨rfl, hw⟩ := hv
 have e4 : (b.drop (b.length - 4)).take 4 = b.drop (b.length - 4) := List.take_of_length_le (by rw [List.length_drop]; omega)
 rw [e4]
 have hw := hw.tail
 refine x_mv rfl rfl trivial rfl ?_
 refine x_call rfl rfl trivial cal_sum_Of rfl (ct_sum_Of hw (kA.of sF) (by omega)) rfl (fun w v47 hv => ?_)
 obtain ⟨rfl, hw⟩ := hv
 refine x_ne rfl rfl trivial (by kernel_rfl) rfl rfl ?_
 refine xl_nil ?_
 refine x_if rfl (fun h3 => ?_) (fun h3 => ?_)
 ·
  have hsum : ¬ leN (b.drop (b.length - 4)) = (sumB a).toNat := fun h => h3 (by rw [h])
  refine x_seq ?_
  refine x_region rfl ?_
  refine x_mv rfl rfl trivial rfl ?_
  refine x_callv rfl rfl trivial rfl cal_stream_read_1 rfl rfl (ct_stream_read_1 hw) rfl (fun w v50 hv => ?_)
  obtain ⟨rfl, hw⟩ := hv
  refine x_ext rfl rfl trivial rfl rfl ?_
  refine x_ext rfl rfl trivial rfl rfl ?_
  refine x_ext rfl rfl trivial rfl rfl ?_
  refine x_stN (cs := hdC noHd) (l' := hdC noHd) rfl trivial rfl rfl many_api_Head rfl (hdC_ones _) hw pK (by simp [hdC]) rfl rfl (fun w hw => ?_)
  refine x_as rfl rfl trivial rfl ?_
  refine x_as rfl rfl trivial rfl ?_
  refine xl_nil ?_
  refine x_ret ?_
  exact end3 rfl rfl ⟨_, rfl, (Loads.blkA (l := hdC noHd) many_api_Head hw pK rfl)⟩ rfl rfl (hrf 6 w (by unfold readP; rw [if_neg (by omega), if_neg (by omega)]; simp only [← ha]; rw [if_pos hsum]) hw.tail)
 have hsum : leN (b.drop (b.length - 4)) = (sumB a).toNat := by omega
 have hr5 : ¬ headOk a → readP b = (5, noHd, []) := fun h => by unfold readP; rw [if_neg (by omega), if_neg (by omega)]; simp only [← ha]; rw [if_neg (by rw [hsum]; simp), if_neg h]
 obtain ⟨wh, hwh⟩ : ∃ wh, wh = decide (leN ((a.drop 4).take 1) = 1) := ⟨_, rfl⟩
 have hwi : decide (((leN ((a.drop 4).take 1) : Nat) : Int) = 1) = wh := by rw [hwh]; exact decide_eq_decide.2 (by omega)
 have hdl : ∀ n, (a.drop n).length = a.length - n := fun n => List.length_drop
 have m4 : leN ((a.drop 29).take 4) < 256 ^ 4 := leN_lt' (by rw [List.length_take]; omega)
 refine x_skip ?_
 refine x_seq ?_
 refine x_region rfl ?_
 refine x_mv rfl rfl trivial rfl ?_
 refine x_call rfl rfl trivial cal_wire_NewReader rfl (ct_wire_NewReader hw (kA.of sF) (by omega)) rfl (fun w v55 hv => ?_)
 obtain ⟨q2, rfl, hw⟩ := hv
 refine x_build (v := .agg #[.pointer (some ⟨q2, 0, none⟩)]) rfl rfl trivial rfl (fun w => by kernel_rfl) ?_
 refine x_alloc rfl rfl trivial z_stream_reader hw rfl (fun w b7 hw => ?_)
 refine x_stN (cs := [.pointer (some ⟨q2, 0, none⟩)]) (l' := [.pointer (some ⟨q2, 0, none⟩)]) rfl trivial rfl rfl many_stream_reader rfl (by intro u hu; simp at hu; subst hu; rfl) hw pK (by simp) rfl rfl (fun w hw => ?_)
 refine xl_nil ?_
 refine x_seq ?_
 refine x_draw [0, 1, 3, 4, 2, 5, 6, 7] mixed (by kernel_rfl) ?_
 replace hw := hw.drawn (w.drawn + 1)
 refine x_fld rfl rfl trivial fo_stream_reader_0 rfl ?_
 refine x_ld rfl rfl trivial rfl (Loads.blk1 (v := .pointer (some ⟨q2, 0, none⟩)) one_p_wire_Reader hw pK rfl) ?_
 refine x_fld rfl rfl trivial fo_stream_reader_0 rfl ?_
 refine x_ld rfl rfl trivial rfl (Loads.blk1 (v := .pointer (some ⟨q2, 0, none⟩)) one_p_wire_Reader hw pK rfl) ?_
 refine x_callP rfl rfl trivial cal_wire_Get_uint32 rfl (ct_get32 (hw.bring (As := [wrd q2 a 0]) bR) (by omega) (by omega)) (fun w v59 hv q' hq => ?_) (fun w v59 hv => ?_)
 ·
  obtain ⟨rfl, hw⟩ := hv
  have hq := pend_mem (l := [4]) (by kernel_rfl) hq
  simp only [List.mem_cons, List.not_mem_nil, or_false] at hq
  subst hq
  exact chk_ld rfl rfl rfl (Loads.blk1 (v := .pointer (some ⟨q2, 0, none⟩)) one_p_wire_Reader hw pK rfl)
 obtain ⟨rfl, hw⟩ := hv
 refine x_call rfl rfl trivial cal_wire_Get_uint8 rfl (ct_get8 hw (by rw [hdl]; omega) (by rw [hdl]; omega)) (by kernel_rfl) (fun w v62 hv => ?_)
 obtain ⟨rfl, hw⟩ := hv
 rw [List.drop_drop] at hw
 refine x_as rfl rfl trivial rfl ?_
 refine x_as rfl rfl trivial rfl ?_
 refine xl_nil ?_
 refine x_seq ?_
 refine x_region rfl ?_
 refine x_mv rfl rfl trivial rfl ?_
 refine x_eq rfl rfl trivial (by kernel_rfl) rfl rfl ?_
 refine x_build (v := .agg (hdC ⟨decide (((leN ((a.drop 4).take 1) : Nat) : Int) = 1), noMk, noMk, 0⟩).toArray) rfl rfl trivial rfl (fun w => by kernel_rfl) ?_
 rw [hwi]
 refine x_alloc rfl rfl trivial z_api_Head hw rfl (fun w b10 hw => ?_)
 refine x_stN (cs := hdC ⟨wh, noMk, noMk, 0⟩) (l' := hdC ⟨wh, noMk, noMk, 0⟩) rfl trivial rfl rfl many_api_Head rfl (hdC_ones _) hw pK (by simp [hdC]) rfl rfl (fun w hw => ?_)
 refine xl_nil ?_
 refine x_seq ?_
 refine x_region rfl ?_
 refine x_alloc rfl rfl trivial z_a2_bool hw rfl (fun w b11 hw => ?_)
 refine xl_nil ?_
 refine x_seq ?_
 refine x_region rfl ?_
 refine x_ld rfl rfl trivial rfl (Loads.blkA (l := [.pointer (some ⟨q2, 0, none⟩)]) many_stream_reader hw pK rfl) ?_
 refine x_call rfl rfl trivial cal_stream_reader_mark rfl (ct_stream_mark (b := a.drop 5) (hw.bring (As := [wrd q2 _ 0]) bR) (by rw [hdl]; omega) (by rw [hdl]; omega)) rfl (fun w v68 hv => ?_)
 obtain ⟨rfl, hw⟩ := hv
 rw [List.drop_drop] at hw
 refine x_mv rfl rfl trivial rfl ?_
 refine x_ext rfl rfl trivial rfl rfl ?_
 refine x_ext rfl rfl trivial rfl rfl ?_
 refine x_fld rfl rfl trivial fo_api_Head_1 rfl ?_
 refine x_stN (cs := mkC (markP (a.drop 5))) (l' := hdC ⟨wh, markP (a.drop 5), noMk, 0⟩) rfl trivial rfl rfl many_api_Mark rfl (by intro u hu; simp [mkC] at hu; rcases hu with rfl | rfl | rfl <;> rfl) hw pK (by simp [mkC, hdC]) rfl rfl (fun w hw => ?_)
 refine x_idxA rfl rfl trivial U_a2_bool sz_bool rfl rfl ⟨by omega, by omega⟩ ?_
 refine x_st1 (l' := [.bool (decide (markOk (markP (a.drop 5)))), .bool false]) rfl trivial rfl rfl one_bool rfl hw pK rfl rfl rfl (fun w hw => ?_)
 refine xl_nil ?_
 refine x_seq ?_
 refine x_region rfl ?_
 refine x_ld rfl rfl trivial rfl (Loads.blkA (l := [.pointer (some ⟨q2, 0, none⟩)]) many_stream_reader hw pK rfl) ?_
 refine x_call rfl rfl trivial cal_stream_reader_mark rfl (ct_stream_mark (b := a.drop 17) (hw.bring (As := [wrd q2 _ 0]) bR) (by rw [hdl]; omega) (by rw [hdl]; omega)) rfl (fun w v75 hv => ?_)
 obtain ⟨rfl, hw⟩ := hv
 rw [List.drop_drop] at hw
 refine x_mv rfl rfl trivial rfl ?_
 refine x_ext rfl rfl trivial rfl rfl ?_
 refine x_ext rfl rfl trivial rfl rfl ?_
 refine x_fld rfl rfl trivial fo_api_Head_2 rfl ?_
 refine x_stN (cs := mkC (markP (a.drop 17))) (l' := hdC ⟨wh, markP (a.drop 5), markP (a.drop 17), 0⟩) rfl trivial rfl rfl many_api_Mark rfl (by intro u hu; simp [mkC] at hu; rcases hu with rfl | rfl | rfl <;> rfl) hw pK (by simp [mkC, hdC]) rfl rfl (fun w hw => ?_)
 refine x_idxA rfl rfl trivial U_a2_bool sz_bool rfl rfl ⟨by omega, by omega⟩ ?_
 refine x_st1 (l' := [.bool (decide (markOk (markP (a.drop 5)))), .bool (decide (markOk (markP (a.drop 17))))]) rfl trivial rfl rfl one_bool rfl hw pK rfl rfl rfl (fun w hw => ?_)
 refine xl_nil ?_
 refine x_seq ?_
 refine x_region rfl ?_
 refine x_fld rfl rfl trivial fo_stream_reader_0 rfl ?_
 refine x_ld rfl rfl trivial rfl (Loads.blk1 (v := .pointer (some ⟨q2, 0, none⟩)) one_p_wire_Reader hw pK rfl) ?_
 refine x_call rfl rfl trivial cal_wire_Get_uint32 rfl (ct_get32 (b := a.drop 29) (hw.bring (As := [wrd q2 _ 0]) bR) (by rw [hdl]; omega) (by rw [hdl]; omega)) rfl (fun w v82 hv => ?_)
 obtain ⟨rfl, hw⟩ := hv
 rw [List.drop_drop] at hw
 obtain ⟨many, hmany⟩ : ∃ many, many = leN ((a.drop 29).take 4) := ⟨_, rfl⟩
 rw [← hmany] at m4 ⊢
 refine x_as rfl rfl trivial rfl ?_
 refine xl_nil ?_
 refine x_seq ?_
 refine x_seq ?_
 refine x_region rfl ?_
 refine x_mv rfl rfl trivial rfl ?_
 refine x_ne rfl rfl trivial (by kernel_rfl) rfl rfl ?_
 refine x_mv rfl rfl trivial rfl ?_
 refine xl_and (l1 := [3, 4, 5]) (l2 := [6, 7, 8, 9, 10, 11, 12, 13, 14, 15, 16, 17, 18, 19, 20]) rfl (d := 88) (((leN (a.take 4) : Nat) : Int) ≠ 827609923 ∨ ((leN ((a.drop 4).take 1) : Nat) : Int) > 1) rfl ?_ ?_
 ·
  refine xl_split (d := 85) rfl (fun h4 => ?_) (fun h4 => ?_)
  ·
   refine xl_no rfl rfl rfl rfl rfl rfl ?_
   refine xl_no rfl rfl rfl rfl rfl rfl ?_
   refine x_pickT rfl rfl trivial rfl rfl rfl ?_
   refine xl_nil ?_
   refine ⟨rfl, congrArg some (congrArg Value.bool ?_)⟩
   first | exact (decide_eq_false (by omega)).symm | exact (decide_eq_true (by omega)).symm | exact decide_eq_decide.2 (by omega)
  refine x_mv rfl rfl ⟨_, rfl, rfl⟩ rfl ?_
  refine x_gt rfl rfl ⟨_, rfl, rfl⟩ rfl rfl ?_
  refine x_pickF rfl rfl trivial rfl rfl rfl ?_
  refine xl_nil ?_
  refine ⟨rfl, congrArg some (congrArg Value.bool ?_)⟩
  first | exact (decide_eq_false (by omega)).symm | exact (decide_eq_true (by omega)).symm | exact decide_eq_decide.2 (by omega)
 refine x_mv rfl rfl trivial rfl ?_
 refine xl_and (l1 := [7, 8, 9, 10]) (l2 := [11, 12, 13, 14, 15, 16, 17, 18, 19, 20]) rfl (d := 93) ((((leN (a.take 4) : Nat) : Int) ≠ 827609923 ∨ ((leN ((a.drop 4).take 1) : Nat) : Int) > 1) ∨ ¬ (decide (markOk (markP (a.drop 5))) = true ∧ decide (markOk (markP (a.drop 17))) = true)) rfl ?_ ?_
 ·
  refine xl_split (d := 89) rfl (fun h5 => ?_) (fun h5 => ?_)
  ·
   refine xl_no rfl rfl rfl rfl rfl rfl ?_
   refine xl_no rfl rfl rfl rfl rfl rfl ?_
   refine xl_no rfl rfl rfl rfl rfl rfl ?_
   refine x_pickT rfl rfl trivial rfl rfl rfl ?_
   refine xl_nil ?_
   refine ⟨rfl, congrArg some (congrArg Value.bool ?_)⟩
   first | exact (decide_eq_true (Or.inl (by assumption))).symm | exact decide_eq_decide.2 ⟨fun h => .inr h, fun h => h.resolve_left (by assumption)⟩
  refine x_ld rfl rfl ⟨_, rfl, rfl⟩ rfl (Loads.blkA (l := [.bool (decide (markOk (markP (a.drop 5)))), .bool (decide (markOk (markP (a.drop 17))))]) many_a2_bool hw pK rfl) ?_
  refine x_build (v := .agg #[.bool true, .bool true]) rfl rfl ⟨_, rfl, rfl⟩ rfl (fun w => by kernel_rfl) ?_
  refine x_bin (v := .bool (decide (¬ (decide (markOk (markP (a.drop 5))) = true ∧ decide (markOk (markP (a.drop 17))) = true)))) rfl rfl ⟨_, rfl, rfl⟩ (by kernel_rfl) rfl rfl (fun w' => run_ne_ok2 _ _ _ _ w') ?_
  refine x_pickF rfl rfl trivial rfl rfl rfl ?_
  refine xl_nil ?_
  refine ⟨rfl, congrArg some (congrArg Value.bool ?_)⟩
  first | exact (decide_eq_true (Or.inl (by assumption))).symm | exact decide_eq_decide.2 ⟨fun h => .inr h, fun h => h.resolve_left (by assumption)⟩
 refine x_mv rfl rfl trivial rfl ?_
 refine xl_and (l1 := [12, 13, 14, 15, 16, 17, 18, 19, 20]) (l2 := []) rfl (d := 103) (((((leN (a.take 4) : Nat) : Int) ≠ 827609923 ∨ ((leN ((a.drop 4).take 1) : Nat) : Int) > 1) ∨ ¬ (decide (markOk (markP (a.drop 5))) = true ∧ decide (markOk (markP (a.drop 17))) = true)) ∨ (wh = true ∧ ¬ markP (a.drop 5) = noMk)) rfl ?_ ?_
 ·
  refine xl_split (d := 94) rfl (fun h6 => ?_) (fun h6 => ?_)
  ·
   refine xl_no rfl rfl rfl rfl rfl rfl ?_
   refine xl_no rfl rfl rfl rfl rfl rfl ?_
   refine xl_no rfl rfl rfl rfl rfl rfl ?_
   refine xl_none rfl rfl rfl rfl rfl ?_
   refine xl_none rfl rfl rfl rfl rfl ?_
   refine xl_none rfl rfl rfl rfl rfl ?_
   refine xl_none rfl rfl rfl rfl rfl ?_
   refine xl_no rfl rfl rfl rfl rfl rfl ?_
   refine x_pickT rfl rfl trivial rfl rfl rfl ?_
   refine xl_nil ?_
   refine ⟨rfl, congrArg some (congrArg Value.bool ?_)⟩
   first | exact (decide_eq_true (Or.inl (by assumption))).symm | exact decide_eq_decide.2 ⟨fun h => .inr ⟨by assumption, h⟩, fun h => (h.resolve_left (by assumption)).2⟩ | exact (decide_eq_false (fun h => absurd (h.resolve_left (by assumption)).1 (by assumption))).symm
  refine x_fld rfl rfl ⟨_, rfl, rfl⟩ fo_api_Head_0 rfl ?_
  refine x_ld rfl rfl ⟨_, rfl, rfl⟩ rfl (Loads.blk1 (v := .bool wh) one_bool hw pK rfl) ?_
  refine x_mv rfl rfl ⟨_, rfl, rfl⟩ rfl ?_
  refine xl_split (d := 97) (p := wh = true) (by rw [Bool.decide_coe]; rfl) (fun h7 => ?_) (fun h7 => ?_)
  ·
   refine x_fld rfl rfl ⟨_, rfl, rfl⟩ fo_api_Head_1 rfl ?_
   refine x_ld rfl rfl ⟨_, rfl, rfl⟩ rfl (Loads.blkN (cs := mkC (markP (a.drop 5))) many_api_Mark hw pK rfl rfl) ?_
   refine x_build (v := .agg (mkC noMk).toArray) rfl rfl ⟨_, rfl, rfl⟩ rfl (fun w => by kernel_rfl) ?_
   refine x_bin (v := .bool (decide (¬ markP (a.drop 5) = noMk))) rfl rfl ⟨_, rfl, rfl⟩ (by kernel_rfl) rfl rfl (fun w' => by
        rw [Sem.run_bind, run_eqGuard_agg w' _ _ _ _ _ _ (by kernel_rfl), Result.andThen_ok, run_neq_struct, run_eq_mk 9998]
        simp) ?_
   refine x_pickT rfl rfl ⟨_, rfl, rfl⟩ rfl rfl rfl ?_
   refine x_pickF rfl rfl trivial rfl rfl rfl ?_
   refine xl_nil ?_
   refine ⟨rfl, congrArg some (congrArg Value.bool ?_)⟩
   first | exact (decide_eq_true (Or.inl (by assumption))).symm | exact decide_eq_decide.2 ⟨fun h => .inr ⟨by assumption, h⟩, fun h => (h.resolve_left (by assumption)).2⟩ | exact (decide_eq_false (fun h => absurd (h.resolve_left (by assumption)).1 (by assumption))).symm
  refine xl_no rfl rfl rfl rfl rfl rfl ?_
  refine xl_no rfl rfl rfl rfl rfl rfl ?_
  refine xl_no rfl rfl rfl rfl rfl rfl ?_
  refine xl_no rfl rfl rfl rfl rfl rfl ?_
  refine x_pickF rfl rfl ⟨_, rfl, rfl⟩ rfl rfl rfl ?_
  refine x_pickF rfl rfl trivial rfl rfl rfl ?_
  refine xl_nil ?_
  refine ⟨rfl, congrArg some (congrArg Value.bool ?_)⟩
  first | exact (decide_eq_true (Or.inl (by assumption))).symm | exact decide_eq_decide.2 ⟨fun h => .inr ⟨by assumption, h⟩, fun h => (h.resolve_left (by assumption)).2⟩ | exact (decide_eq_false (fun h => absurd (h.resolve_left (by assumption)).1 (by assumption))).symm
 refine xl_nil ?_
 refine x_if rfl (fun h8 => ?_) (fun h8 => ?_)
 ·
  refine x_seq ?_
  refine x_region rfl ?_
  refine x_mv rfl rfl trivial rfl ?_
  refine x_callv rfl rfl trivial rfl cal_stream_read_1 rfl rfl (ct_stream_read_1 hw) rfl (fun w v105 hv => ?_)
  obtain ⟨rfl, hw⟩ := hv
  refine x_ext rfl rfl trivial rfl rfl ?_
  refine x_ext rfl rfl trivial rfl rfl ?_
  refine x_ext rfl rfl trivial rfl rfl ?_
  refine x_stN (cs := hdC noHd) (l' := hdC noHd) rfl trivial rfl rfl many_api_Head rfl (hdC_ones _) hw pK (by simp [hdC]) rfl rfl (fun w hw => ?_)
  refine x_as rfl rfl trivial rfl ?_
  refine x_as rfl rfl trivial rfl ?_
  refine xl_nil ?_
  refine x_ret ?_
  exact end3 rfl rfl ⟨_, rfl, (Loads.blkA (l := hdC noHd) many_api_Head hw pK rfl)⟩ rfl rfl (hrf 5 w (hr5 (fun h => by
      obtain ⟨g1, g2, g3, g4, g5⟩ := h
      rcases h8 with ((h8 | h8) | h8) | ⟨h8, h12⟩
      ·exact h8 (by rw [g1]; rfl)
      ·omega
      ·exact h8 ⟨decide_eq_true g3, decide_eq_true g4⟩
      ·rw [hwh] at h8
       exact h12 (g5 (of_decide_eq_true h8)))) (by repeat (first | exact hw | replace hw := hw.tail)))
 have hHd : headOk a := by
  refine ⟨?_, ?_, ?_, ?_, ?_⟩
  ·have := fun h => h8 (.inl (.inl (.inl h)))
   omega
  ·have := fun h => h8 (.inl (.inl (.inr h)))
   omega
  ·exact Decidable.byContradiction fun h => h8 (.inl (.inr fun g => h (of_decide_eq_true g.1)))
  ·exact Decidable.byContradiction fun h => h8 (.inl (.inr fun g => h (of_decide_eq_true g.2)))
  intro hg
  exact Decidable.byContradiction fun h => h8 (.inr ⟨by rw [hwh]; exact decide_eq_true hg, h⟩)
 have hrd : readP b = finP wh (markP (a.drop 5)) (markP (a.drop 17)) (chsP wh many [] (a.drop 33)) := by
  unfold readP
  rw [if_neg (by omega), if_neg (by omega)]
  simp only [← ha]
  rw [if_neg (by rw [hsum]; simp), if_pos hHd]
  simp only [← hwh, ← hmany]
 refine x_skip ?_
 refine x_seq ?_
 refine x_region rfl ?_
 refine x_as rfl rfl trivial rfl ?_
 refine xl_nil ?_
 refine x_seq ?_
 refine x_region rfl ?_
 refine x_as rfl rfl trivial rfl ?_
 refine xl_nil ?_
 refine x_seq ?_
 refine x_seq ?_
 refine x_region rfl ?_
 refine x_mv rfl rfl trivial rfl ?_
 refine x_mv rfl rfl trivial rfl ?_
 refine xl_nil ?_
 refine x_block ?_
 have hw := row_nil (Sat.both_in (M := []) hw) 68 4
 have hw := hw.bring (As := [row 68 4 _ _ _, both [], wrd q2 _ 0]) bR
 refine x_loop (fun m e w => ∃ (i : Nat) (u lv : Value) (lk : Bys) (l : List ChV) (s : Bys), i ≤ many ∧ m = many - i ∧ l.length = i ∧ (∀ x ∈ l, Sml x.c.key ∧ Sml x.c.old ∧ Sml x.c.new) ∧ l.length + s.length ≤ a.length ∧ LastOk l lv lk ∧ chsP wh many [] (a.drop 33) = (chsP wh (many - i) lk s).map (fun x => (l.map ChV.c ++ x.1, x.2)) ∧ e = [(2, .pointer (some ⟨b2, 0, none⟩)), (5, .func (.func 39) #[] #[]), (7, .pointer (some ⟨b7, 0, none⟩)), (10, .pointer (some ⟨b10, 0, none⟩)), (13, u), (14, lv), (109, .int .u32 (many : Nat)), (110, .int .u32 (i : Nat))] ∧ Sat G (row 68 4 u i (l.map ChV.cells).flatten :: both (l.flatMap chParts) :: wrd q2 s 0 :: blk b11 [.bool (decide (markOk (markP (a.drop 5)))), .bool (decide (markOk (markP (a.drop 17))))] 113 :: blk b10 (hdC ⟨wh, markP (a.drop 5), markP (a.drop 17), 0⟩) 30 :: blk b7 [.pointer (some ⟨q2, 0, none⟩)] 111 :: blk b2 (hdC noHd) 30 :: L) w)
  (m := many) (e₀ := [(2, .pointer (some ⟨b2, 0, none⟩)), (5, .func (.func 39) #[] #[]), (7, .pointer (some ⟨b7, 0, none⟩)), (10, .pointer (some ⟨b10, 0, none⟩)), (13, .slice none 0 0), (14, .slice none 0 0), (109, .int .u32 (many : Nat)), (110, .int .u32 (0 : Nat))]) sB
  ⟨0, _, _, [], [], a.drop 33, Nat.zero_le _, rfl, rfl, (fun x hx => by cases hx), (by rw [hdl]; simp only [List.length_nil]; omega), .inl ⟨rfl, rfl⟩, (by rw [Nat.sub_zero]; cases chsP wh many [] (a.drop 33) <;> simp), rfl, hw⟩ ?_
 rintro m e w ⟨i, u, lv, lk, l, s, hi, rfl, hli, hsm, hls, hlast, hrel, rfl, hw⟩
 refine x_seq ?_
 refine x_region rfl ?_
 refine x_lt rfl rfl trivial rfl rfl ?_
 refine xl_nil ?_
 refine x_seq ?_
 refine x_if rfl (fun h9 => ?_) (fun h9 => ?_)
 ·
  have hi' : i < many := by omega
  have hsm' : ChsSm l := ⟨hsm, by omega⟩
  have hm1 : many - i = (many - (i + 1)) + 1 := by omega
  have kl := hlast.knows hsm' (L := row 68 4 u i (l.map ChV.cells).flatten :: both (l.flatMap chParts) :: blk b11 [.bool (decide (markOk (markP (a.drop 5)))), .bool (decide (markOk (markP (a.drop 17))))] 113 :: blk b10 (hdC ⟨wh, markP (a.drop 5), markP (a.drop 17), 0⟩) 30 :: blk b7 [.pointer (some ⟨q2, 0, none⟩)] 111 :: blk b2 (hdC noHd) 30 :: L) pK
  refine x_skip ?_
  refine x_seq ?_
  refine x_block ?_
  refine x_seq ?_
  refine x_region rfl ?_
  refine x_ld rfl rfl trivial rfl (Loads.blkA (l := [.pointer (some ⟨q2, 0, none⟩)]) many_stream_reader hw pK rfl) ?_
  refine x_mv rfl rfl trivial rfl ?_
  refine x_fld rfl rfl trivial fo_api_Head_0 rfl ?_
  refine x_ld rfl rfl trivial rfl (Loads.blk1 (v := .bool wh) one_bool hw pK rfl) ?_
  refine x_call rfl rfl trivial cal_stream_reader_change rfl (ct_stream_change (s := some s) (hw.bring (As := [wrd q2 s 0]) bR) (fun c hc => by cases hc; omega) kl) rfl (fun w v117 hv => ?_)
  obtain ⟨x, hxc, rfl, hw⟩ := hv
  have hox := ones_ch hw
  have hxs := chG_small (val := valS) (fun s => valS_len) (some s)
  rw [← hxc] at hxs
  refine x_mv rfl rfl trivial rfl ?_
  refine x_ext rfl rfl trivial rfl rfl ?_
  refine x_ext rfl rfl trivial rfl rfl ?_
  refine x_alloc rfl rfl trivial z_api_Change hw rfl (fun w b15 hw => ?_)
  refine x_stN (cs := x.cells) (l' := x.cells) rfl trivial rfl rfl many_api_Change rfl hox hw pK (by simp [ChV.cells]) rfl rfl (fun w hw => ?_)
  refine x_as rfl rfl trivial rfl ?_
  refine xl_nil ?_
  refine x_seq ?_
  refine x_seq ?_
  refine x_region rfl ?_
  refine x_mv rfl rfl trivial rfl ?_
  refine x_notp rfl rfl trivial rfl ?_
  refine xl_nil ?_
  refine x_if rfl (fun h10 => ?_) (fun h10 => ?_)
  ·
   refine x_seq ?_
   refine x_region rfl ?_
   refine x_mv rfl rfl trivial rfl ?_
   refine x_callv rfl rfl trivial rfl cal_stream_read_1 rfl rfl (ct_stream_read_1 hw) rfl (fun w v123 hv => ?_)
   obtain ⟨rfl, hw⟩ := hv
   refine x_ext rfl rfl trivial rfl rfl ?_
   refine x_ext rfl rfl trivial rfl rfl ?_
   refine x_ext rfl rfl trivial rfl rfl ?_
   refine x_stN (cs := hdC noHd) (l' := hdC noHd) rfl trivial rfl rfl many_api_Head rfl (hdC_ones _) hw pK (by simp [hdC]) rfl rfl (fun w hw => ?_)
   refine x_as rfl rfl trivial rfl ?_
   refine x_as rfl rfl trivial rfl ?_
   refine xl_nil ?_
   refine x_ret ?_
   exact end3 rfl rfl ⟨_, rfl, (Loads.blkA (l := hdC noHd) many_api_Head hw pK rfl)⟩ rfl rfl (hrf 5 w (by
        have hc : chP lk wh s = none := by
         unfold chP
         cases hq : chG valS (some s) with
         | mk s1 c =>
          rw [hq] at h10
          cases s1 with
          | none => rfl
          | some r =>
           simp only at h10 ⊢
           rw [if_neg fun h => h10 ⟨by simp, h⟩]
        rw [hrd, hrel, hm1]
        simp only [chsP, hc]
        rfl) (by repeat (first | exact hw | replace hw := hw.tail)))
  have h10 := Decidable.not_not.1 h10
  obtain ⟨r, hr⟩ : ∃ r, (chG valS (some s)).1 = some r := Option.ne_none_iff_exists'.1 h10.1
  have hlt := chG_lt (fun N s => valS_le) rfl hr
  have hc : chP lk wh s = some (x.c, r) := by
   unfold chP
   cases hq : chG valS (some s) with
   | mk s1 c =>
    rw [hq] at h10 hr hxc
    simp only at h10 hr hxc ⊢
    subst hr
    simp only
    rw [if_pos h10.2, hxc]
  rw [hr] at hw
  refine x_skip ?_
  refine x_seq ?_
  refine x_region rfl ?_
  refine x_fld rfl rfl trivial fo_api_Change_1 rfl ?_
  refine x_ld rfl rfl trivial rfl (Loads.blk1 (v := x.kv) one_sl_uint8 hw pK rfl) ?_
  refine x_as rfl rfl trivial rfl ?_
  refine xl_nil ?_
  refine x_region rfl ?_
  refine x_mv rfl rfl trivial rfl ?_
  refine x_ld rfl rfl trivial rfl (Loads.blkA (l := x.cells) many_api_Change hw pK rfl) ?_
  refine x_bs1 (cs := x.cells) rfl rfl trivial U_sl_api_Change sz_api_Change zs_api_Change (by decide) rfl rfl rfl hw rfl (fun w b131 hw => ?_)
  refine x_app (m := i) (k := 1) (news := x.cells) rfl rfl trivial U_sl_api_Change sz_api_Change by_api_Change zs_api_Change rfl rfl hw pK (Rd.blk0 hw pK) rfl hox (by simp only [maxLen]; omega) (by omega) rfl (fun w v132 hw => ?_)
  refine x_as rfl rfl trivial rfl ?_
  refine xl_nil ?_
  refine x_region rfl ?_
  refine x_add rfl rfl trivial rfl rfl ?_
  rw [show IntKind.u32.wrap ((i : Int) + 1) = ((i + 1 : Nat) : Int) from w32 (n := i + 1) (by omega)]
  refine x_mv rfl rfl trivial rfl ?_
  refine xl_nil ?_
  have hz := (hw.bring (As := [blk b131 _ _, blk b15 _ _, both (l.flatMap chParts), both (chParts x)]) bR).tail.tail.both_app
  rw [show l.flatMap chParts ++ chParts x = (l ++ [x]).flatMap chParts by simp, show (l.map ChV.cells).flatten ++ x.cells = ((l ++ [x]).map ChV.cells).flatten by simp] at hz
  have hz2 := hz.bring (As := [row 68 4 v132 _ _, both _, wrdS q2 (some r)]) bR
  refine ⟨many - (i + 1), by omega, [(2, _), (5, _), (7, _), (10, _), (13, _), (14, _), (109, _), (110, .int .u32 ((i + 1 : Nat) : Int))], sB, i + 1, v132, x.kv, x.c.key, l ++ [x], r, by omega, rfl, by simp [hli], ?_, by simp only [List.length_append, List.length_cons, List.length_nil]; omega, .inr ⟨x, by simp, rfl, rfl⟩, ?_, rfl, hz2⟩
  ·intro y hy
   rcases List.mem_append.1 hy with hy | hy
   ·exact hsm y hy
   obtain rfl : y = x := by simpa using hy
   exact hxs
  rw [hrel, hm1]
  simp only [chsP, hc]
  cases chsP wh (many - (i + 1)) x.c.key r <;> simp
 have hie : i = many := by omega
 rw [hie, Nat.sub_self] at hrel
 have hrel' : chsP wh many [] (a.drop 33) = some (l.map ChV.c, s) := by rw [hrel]; simp [chsP]
 refine x_exit rfl ?_
 refine x_seq ?_
 refine x_seq ?_
 refine x_region rfl ?_
 refine x_fld rfl rfl trivial fo_stream_reader_0 rfl ?_
 refine x_ld rfl rfl trivial rfl (Loads.blk1 (v := .pointer (some ⟨q2, 0, none⟩)) one_p_wire_Reader hw pK rfl) ?_
 refine x_call rfl rfl trivial cal_wire_Reader_End rfl (ct_wire_EndS (s := some s) (hw.bring (As := [wrd q2 s 0]) bR)) rfl (fun w v136 hv => ?_)
 obtain ⟨er, rfl, her, hw⟩ := hv
 refine x_ne rfl rfl trivial (by kernel_rfl) rfl rfl ?_
 refine xl_nil ?_
 refine x_if rfl (fun h11 => ?_) (fun h11 => ?_)
 ·
  refine x_seq ?_
  refine x_region rfl ?_
  refine x_mv rfl rfl trivial rfl ?_
  refine x_callv rfl rfl trivial rfl cal_stream_read_1 rfl rfl (ct_stream_read_1 hw) rfl (fun w v139 hv => ?_)
  obtain ⟨rfl, hw⟩ := hv
  refine x_ext rfl rfl trivial rfl rfl ?_
  refine x_ext rfl rfl trivial rfl rfl ?_
  refine x_ext rfl rfl trivial rfl rfl ?_
  refine x_stN (cs := hdC noHd) (l' := hdC noHd) rfl trivial rfl rfl many_api_Head rfl (hdC_ones _) hw pK (by simp [hdC]) rfl rfl (fun w hw => ?_)
  refine x_as rfl rfl trivial rfl ?_
  refine x_as rfl rfl trivial rfl ?_
  refine xl_nil ?_
  refine x_ret ?_
  exact end3 rfl rfl ⟨_, rfl, (Loads.blkA (l := hdC noHd) many_api_Head hw pK rfl)⟩ rfl rfl (hrf 5 w (by
        rw [hrd, hrel']
        cases s with
        | nil => exact absurd (her.2 rfl) h11
        | cons x s => rfl) (by repeat (first | exact hw | replace hw := hw.tail)))
 have hs0 : s = [] := by have := her.1 (Decidable.not_not.1 h11); simpa using this
 subst hs0
 obtain ⟨ua, uc, rfl⟩ := row_form (hw.bring (As := [row 68 4 u _ _]) bR)
 refine x_skip ?_
 refine x_seq ?_
 refine x_region rfl ?_
 refine x_mv rfl rfl trivial rfl ?_
 refine x_len rfl rfl trivial (by kernel_rfl) U_sl_api_Change rfl ?_
 refine x_fld rfl rfl trivial fo_api_Head_3 rfl ?_
 refine x_st1 (l' := hdC ⟨wh, markP (a.drop 5), markP (a.drop 17), i⟩) rfl trivial rfl rfl one_int rfl hw pK rfl rfl rfl (fun w hw => ?_)
 refine xl_nil ?_
 refine x_seq ?_
 refine x_region rfl ?_
 refine x_ld rfl rfl trivial rfl (Loads.blkA (l := hdC ⟨wh, markP (a.drop 5), markP (a.drop 17), i⟩) many_api_Head hw pK rfl) ?_
 refine x_mv rfl rfl trivial rfl ?_
 refine x_stN (cs := hdC ⟨wh, markP (a.drop 5), markP (a.drop 17), i⟩) (l' := hdC ⟨wh, markP (a.drop 5), markP (a.drop 17), i⟩) rfl trivial rfl rfl many_api_Head rfl (hdC_ones _) hw pK (by simp [hdC]) rfl rfl (fun w hw => ?_)
 refine x_as rfl rfl trivial rfl ?_
 refine x_as rfl rfl trivial rfl ?_
 refine xl_nil ?_
 refine x_ret ?_
 exact end3 rfl rfl ⟨_, rfl, (Loads.blkA (l := hdC ⟨wh, markP (a.drop 5), markP (a.drop 17), i⟩) many_api_Head hw pK rfl)⟩ rfl rfl (by
        rw [hrd, hrel']
        refine ⟨.slice ua i uc, l, rfl, ⟨hsm, by omega⟩, by simp [hli, finP], ?_⟩
        have hz := (hw.bring (As := [wrdS q2 _, blk b11 _ _, blk b10 _ _, blk b7 _ _, blk b2 _ _]) bR).tail.tail.tail.tail.tail
        rw [hli]
        exact hz)
theorem ct_stream_Head {v : Value} {b : Bys} (hw : Sat G L w) (kb : Knows L (SlB v b)) : Calls Tryz.prog 7 #[v] w (Ret fun r w' => r = .tuple #[.agg (hdC (readP b).2.1).toArray, .int .i64 ((readP b).1 : Nat)] ∧ Sat G L w') := by
 refine calls_of_x (args := [_]) Tryz.func7 rfl Tryz.ntmps7 rfl rfl ?_
 refine x_seq ?_
 refine x_region rfl ?_
 refine x_alloc rfl rfl trivial z_api_Head hw rfl (fun w b2 hw => ?_)
 refine x_as rfl rfl trivial rfl ?_
 refine xl_nil ?_
 refine x_seq ?_
 refine x_region rfl ?_
 refine x_mv rfl rfl trivial rfl ?_
 refine x_call rfl rfl trivial cal_stream_read rfl (ct_stream_read hw (kb.of sF)) rfl (fun w v9 hv => ?_)
 obtain ⟨u, l, hlc, hsm, rfl, hw⟩ := hv
 refine x_mv rfl rfl trivial rfl ?_
 refine x_ext rfl rfl trivial rfl rfl ?_
 refine x_ext rfl rfl trivial rfl rfl ?_
 refine x_ext rfl rfl trivial rfl rfl ?_
 refine x_alloc rfl rfl trivial z_api_Head hw rfl (fun w b4 hw => ?_)
 refine x_stN (cs := hdC (readP b).2.1) (l' := hdC (readP b).2.1) rfl trivial rfl rfl many_api_Head rfl (hdC_ones _) hw pK (by simp [hdC]) rfl rfl (fun w hw => ?_)
 refine x_as rfl rfl trivial rfl ?_
 refine x_as rfl rfl trivial rfl ?_
 refine xl_nil ?_
 refine x_seq ?_
 refine x_region rfl ?_
 refine x_ld rfl rfl trivial rfl (Loads.blkA (l := hdC (readP b).2.1) many_api_Head hw pK rfl) ?_
 refine x_mv rfl rfl trivial rfl ?_
 refine x_stN (cs := hdC (readP b).2.1) (l' := hdC (readP b).2.1) rfl trivial rfl rfl many_api_Head rfl (hdC_ones _) hw pK (by simp [hdC]) rfl rfl (fun w hw => ?_)
 refine x_as rfl rfl trivial rfl ?_
 refine xl_nil ?_
 refine x_ret ?_
 exact end2 rfl rfl ⟨_, rfl, (Loads.blkA (l := hdC (readP b).2.1) many_api_Head hw pK rfl)⟩ rfl ⟨rfl, (by repeat (first | exact hw | replace hw := hw.tail))⟩
theorem ct_stream_Changes {v : Value} {b : Bys} (hw : Sat G L w) (kb : Knows L (SlB v b)) : Calls Tryz.prog 10 #[v] w (Ret fun r w' => ∃ (u : Value) (l : List ChV), l.map ChV.c = (readP b).2.2 ∧ ChsSm l ∧ r = .tuple #[u, .int .i64 ((readP b).1 : Nat)] ∧ Sat G (row 68 4 u l.length (l.map ChV.cells).flatten :: both (l.flatMap chParts) :: L) w') := by
 refine calls_of_x (args := [_]) Tryz.func10 rfl Tryz.ntmps10 rfl rfl ?_
 refine x_seq ?_
 refine x_region rfl ?_
 refine x_as rfl rfl trivial rfl ?_
 refine x_as rfl rfl trivial rfl ?_
 refine xl_nil ?_
 refine x_seq ?_
 refine x_region rfl ?_
 refine x_mv rfl rfl trivial rfl ?_
 refine x_call rfl rfl trivial cal_stream_read rfl (ct_stream_read hw (kb.of sF)) rfl (fun w v9 hv => ?_)
 obtain ⟨u, l, hlc, hsm, rfl, hw⟩ := hv
 refine x_mv rfl rfl trivial rfl ?_
 refine x_ext rfl rfl trivial rfl rfl ?_
 refine x_ext rfl rfl trivial rfl rfl ?_
 refine x_ext rfl rfl trivial rfl rfl ?_
 refine x_alloc rfl rfl trivial z_api_Head hw rfl (fun w b4 hw => ?_)
 refine x_stN (cs := hdC (readP b).2.1) (l' := hdC (readP b).2.1) rfl trivial rfl rfl many_api_Head rfl (hdC_ones _) hw pK (by simp [hdC]) rfl rfl (fun w hw => ?_)
 refine x_as rfl rfl trivial rfl ?_
 refine x_as rfl rfl trivial rfl ?_
 refine xl_nil ?_
 refine x_seq ?_
 refine x_region rfl ?_
 refine x_mv rfl rfl trivial rfl ?_
 refine x_mv rfl rfl trivial rfl ?_
 refine x_as rfl rfl trivial rfl ?_
 refine x_as rfl rfl trivial rfl ?_
 refine xl_nil ?_
 refine x_ret ?_
 exact end2 rfl rfl rfl rfl ⟨u, l, hlc, hsm, rfl, hw.tail⟩
end
end Go.Proofs.YtnlakpappccekaaGreatDoor.X
