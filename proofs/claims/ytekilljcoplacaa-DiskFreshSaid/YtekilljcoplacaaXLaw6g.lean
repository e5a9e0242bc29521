/- The document's helpers Spare and Kept. -/
import Derived.Test.YtekilljcoplacaaXLaw6f
namespace Go.Proofs.Ytekilljcoplacaa.X
set_option linter.unusedVariables false
set_option linter.unusedSimpArgs false

/-- the mark of a place -/
def mark (i : Nat) : Value := .int .u8 (IntKind.u8.wrap (IntKind.i64.wrap (BitVec.ofInt IntKind.i64.bits 165 ^^^ BitVec.ofInt IntKind.i64.bits (i : Int)).toNat))
def spareV (l : Bys) : List Value := (List.range (l.length + 64)).map fun i => if i < l.length then bv (l.getD i 0) else mark i
theorem spareV_length (l : Bys) : (spareV l).length = l.length + 64 := by simp [spareV]
theorem spareV_get {l : Bys} {i : Nat} (h : i < l.length + 64) : (spareV l)[i]? = some (if i < l.length then bv (l.getD i 0) else mark i) := by simp [spareV, h]
theorem spareV_take (l : Bys) : (spareV l).take l.length = bys l := by
  apply List.ext_getElem?
  intro i
  rw [List.getElem?_take]
  split
  · rename_i h
    rw [spareV_get (by omega), if_pos h, bys_get h]
  · rename_i h
    rw [List.getElem?_eq_none (by rw [bys_length]; omega)]
theorem spareB {L R : List Assn} {b T : Nat} {l : Bys} (q : Pick (blk b (spareV l) T) L R) : Knows L (SlB (.slice (some ⟨b, 0, none⟩) l.length (l.length + 64)) l) := fun g w hw => by
  refine .inr ⟨b, 0, l.length + 64, rfl, by omega, ?_⟩
  have h := (Rd.blk0 hw q).take l.length
  rwa [spareV_take] at h

section
variable {G : Gh} {L R : List Assn} {w : World} {p : Nat} {D : Dk}

theorem ct_ref00_Spare {v : Value} {l : Bys} (hw : Sat G L w) (ka : Knows L (SlB v l)) (hll : l.length ≤ 140737488351232) :
    Calls Try.prog 55 #[v] w (Ret fun r w' => ∃ b, r = .slice (some ⟨b, 0, none⟩) l.length (l.length + 64) ∧ Sat G (blk b (spareV l) 5 :: L) w') := by
  obtain ⟨a, cap, rfl⟩ := ((ka.of (by repeat (first | exact Suf.refl _ | apply Suf.cons))).at hw).form
  refine calls_of_x (args := [_]) func_ref00_Spare rfl nt_ref00_Spare rfl ?_
  refine x_seq ?_
  refine x_region rfl ?_
  refine x_as rfl rfl trivial rfl ?_  -- ref.go:294 assign {'nilslice': 1}
  refine xl_nil ?_
  refine x_seq ?_
  refine x_region rfl ?_
  refine x_mv rfl rfl trivial rfl ?_  -- ref.go:295 move t0
  refine x_len rfl rfl trivial rfl U_sl_uint8 rfl ?_  -- ref.go:295 len(t5)
  refine x_addi rfl rfl trivial rfl rfl (by omega) ?_  -- ref.go:295 add[3] t6 64
  rw [show ((l.length : Int) + 64) = ((l.length + 64 : Nat) : Int) by omega]
  refine x_mks rfl rfl trivial U_sl_uint8 sz_uint8 by_uint8 z_uint8 rfl rfl ⟨by omega, by omega⟩ (by omega) (by omega) hw rfl (fun w b8 hw => ?_)  -- ref.go:295 makeSlice 23 7 7
  simp only [Int.toNat_natCast] at hw ⊢
  refine x_as rfl rfl trivial rfl ?_  -- ref.go:295 assign t8
  refine xl_nil ?_
  refine x_seq ?_
  refine x_seq ?_
  refine x_region rfl ?_
  refine x_as rfl rfl trivial rfl ?_  -- ref.go:296 assign 0
  refine xl_nil ?_
  refine x_block ?_
  refine x_loop (fun m e w => ∃ (k : Nat) (cs : List Value), k ≤ l.length + 64 ∧ m = l.length + 64 - k ∧ e = [(0, .slice a l.length cap), (3, .slice (some ⟨b8, 0, none⟩) (l.length + 64) (l.length + 64)), (4, .int .i64 k)] ∧ cs.length = l.length + 64 ∧ (∀ j, j < k → cs[j]? = (spareV l)[j]?) ∧ Sat G (blk b8 cs 5 :: L) w)
    (m := l.length + 64) (e₀ := [(0, .slice a l.length cap), (3, .slice (some ⟨b8, 0, none⟩) (l.length + 64) (l.length + 64)), (4, .int .i64 (0 : Nat))]) (by repeat (first | exact Sub.nil _ | refine Sub.cons rfl ?_))
    ⟨0, _, Nat.zero_le _, rfl, rfl, by rw [rep_length], (fun j h => by omega), hw⟩ ?_
  rintro m e w ⟨k, cs, hk, rfl, rfl, hcs, hci, hw⟩
  refine x_seq ?_
  refine x_seq ?_
  refine x_region rfl ?_
  refine x_mv rfl rfl trivial rfl ?_  -- ref.go:296 move t4
  refine x_mv rfl rfl trivial rfl ?_  -- ref.go:296 move t3
  refine x_len rfl rfl trivial rfl U_sl_uint8 rfl ?_  -- ref.go:296 len(t10)
  refine x_lt rfl rfl trivial rfl rfl ?_  -- ref.go:296 lss[3] t9 t11
  refine xl_nil ?_
  refine x_if rfl (fun h1 => ?_) (fun h1 => ?_)
  · -- yes
    have hk' : k < l.length + 64 := by omega
    have hsg := spareV_get hk'
    refine x_skip ?_
    refine x_seq ?_
    refine x_block ?_
    refine x_seq ?_
    refine x_region rfl ?_
    refine x_mv rfl rfl trivial rfl ?_  -- ref.go:297 move t4
    refine x_mv rfl rfl trivial rfl ?_  -- ref.go:297 move t0
    refine x_len rfl rfl trivial rfl U_sl_uint8 rfl ?_  -- ref.go:297 len(t16)
    refine x_lt rfl rfl trivial rfl rfl ?_  -- ref.go:297 lss[3] t15 t17
    refine xl_nil ?_
    refine x_if rfl (fun h2 => ?_) (fun h2 => ?_)
    · -- yes
      have hkl : k < l.length := by omega
      rw [if_pos hkl] at hsg
      obtain ⟨b', o', rfl⟩ := ((ka.of (by repeat (first | exact Suf.refl _ | apply Suf.cons))).at hw).nn (by omega)
      refine x_region rfl ?_
      refine x_mv rfl rfl trivial rfl ?_  -- ref.go:298 move t3
      refine x_mv rfl rfl trivial rfl ?_  -- ref.go:298 move t4
      refine x_mv rfl rfl trivial rfl ?_  -- ref.go:298 move t0
      refine x_mv rfl rfl trivial rfl ?_  -- ref.go:298 move t4
      refine x_idx1 rfl rfl trivial U_sl_uint8 sz_uint8 rfl rfl ⟨by omega, by omega⟩ ?_  -- ref.go:298 indexAddr[23] t21 [t22] 
      refine x_ld rfl rfl trivial rfl (Loads.one one_uint8 (((ka.of (by repeat (first | exact Suf.refl _ | apply Suf.cons))).at hw).at ⟨by omega, by omega⟩)) ?_  -- ref.go:298 load[5] t23
      refine x_idx1 rfl rfl trivial U_sl_uint8 sz_uint8 rfl rfl ⟨by omega, by omega⟩ ?_  -- ref.go:298 indexAddr[23] t19 [t20] 
      -- ref.go:298 store[5] t25 := t24
      refine x_st1 (l' := cs.set k (bv (l.getD k 0))) rfl trivial rfl rfl one_uint8 rfl hw (by repeat (first | with_reducible exact Pick.here | apply Pick.there)) (by simp; omega) (by rw [Int.toNat_natCast, Nat.zero_add]) rfl (fun w hw => ?_)
      refine xl_nil ?_
      refine x_region rfl ?_
      refine x_mv rfl rfl trivial rfl ?_  -- ref.go:296 move t4
      refine x_addi rfl rfl trivial rfl rfl (by omega) ?_  -- ref.go:296 add[3] t13 1
      refine x_as rfl rfl trivial rfl ?_  -- ref.go:296 assign t14
      refine xl_nil ?_
      refine ⟨l.length + 64 - (k + 1), by omega, [(0, _), (3, _), (4, .int .i64 (k + 1 : Nat))], (by repeat (first | exact Sub.nil _ | refine Sub.cons rfl ?_)), k + 1, _, by omega, rfl, rfl, by rw [List.length_set]; exact hcs, fun j hj => ?_, hw⟩
      by_cases hjk : k = j
      · subst hjk; rw [hsg, List.getElem?_set_self (by omega)]
      · rw [List.getElem?_set_ne hjk]; exact hci j (by omega)
    · -- no
      have hkl : ¬ k < l.length := by omega
      rw [if_neg hkl] at hsg
      refine x_region rfl ?_
      refine x_mv rfl rfl trivial rfl ?_  -- ref.go:300 move t3
      refine x_mv rfl rfl trivial rfl ?_  -- ref.go:300 move t4
      refine x_mv rfl rfl trivial rfl ?_  -- ref.go:300 move t4
      refine x_xor rfl rfl trivial rfl rfl ?_  -- ref.go:300 xor[3] 165 t28
      refine x_conv rfl rfl trivial rfl U_int U_uint8 rfl ?_  -- ref.go:300 convert 3 5 29
      refine x_idx1 rfl rfl trivial U_sl_uint8 sz_uint8 rfl rfl ⟨by omega, by omega⟩ ?_  -- ref.go:300 indexAddr[23] t26 [t27] 
      -- ref.go:300 store[5] t31 := t30
      refine x_st1 (l' := cs.set k (mark k)) rfl trivial rfl rfl one_uint8 rfl hw (by repeat (first | with_reducible exact Pick.here | apply Pick.there)) (by simp; omega) (by rw [Int.toNat_natCast, Nat.zero_add]; rfl) rfl (fun w hw => ?_)
      refine xl_nil ?_
      refine x_region rfl ?_
      refine x_mv rfl rfl trivial rfl ?_  -- ref.go:296 move t4
      refine x_addi rfl rfl trivial rfl rfl (by omega) ?_  -- ref.go:296 add[3] t13 1
      refine x_as rfl rfl trivial rfl ?_  -- ref.go:296 assign t14
      refine xl_nil ?_
      refine ⟨l.length + 64 - (k + 1), by omega, [(0, _), (3, _), (4, .int .i64 (k + 1 : Nat))], (by repeat (first | exact Sub.nil _ | refine Sub.cons rfl ?_)), k + 1, _, by omega, rfl, rfl, by rw [List.length_set]; exact hcs, fun j hj => ?_, hw⟩
      by_cases hjk : k = j
      · subst hjk; rw [hsg, List.getElem?_set_self (by omega)]
      · rw [List.getElem?_set_ne hjk]; exact hci j (by omega)
  · -- no
    refine x_exit rfl ?_  -- exit 0
    refine x_seq ?_
    refine x_region rfl ?_
    refine x_mv rfl rfl trivial rfl ?_  -- ref.go:303 move t3
    refine x_mv rfl rfl trivial rfl ?_  -- ref.go:303 move t0
    refine x_len rfl rfl trivial rfl U_sl_uint8 rfl ?_  -- ref.go:303 len(t33)
    -- ref.go:303 slice[23] t32 [-:t34:-]
    refine x_cutH rfl rfl trivial U_sl_uint8 szs_uint8 rfl (by simp) rfl ⟨by omega, by omega⟩ ?_
    refine x_as rfl rfl trivial rfl ?_  -- ref.go:303 assign t35
    refine xl_nil ?_
    refine x_ret ?_
    exact end1 rfl rfl (by
  have hkk : k = l.length + 64 := by omega
  have hcb : cs = spareV l := by
    apply List.ext_getElem?
    intro j
    by_cases hj : j < l.length + 64
    · exact hci j (by omega)
    · rw [List.getElem?_eq_none (by omega), List.getElem?_eq_none (by rw [spareV_length]; omega)]
  subst hcb
  exact ⟨b8, rfl, hw⟩)

theorem ct_ref00_Kept {v : Value} {l : Bys} {b : Nat} (hw : Sat G L w) (hp : Pick (blk b (spareV l) 5) L R) (ka : Knows L (SlB v l)) (hll : l.length ≤ 140737488351232) :
    Calls Try.prog 56 #[.slice (some ⟨b, 0, none⟩) l.length (l.length + 64), v] w (Ret fun r w' => r = .bool true ∧ Sat G L w') := by
  obtain ⟨a, cap, rfl⟩ := ((ka.of (by repeat (first | exact Suf.refl _ | apply Suf.cons))).at hw).form
  refine calls_of_x (args := [_, _]) func_ref00_Kept rfl nt_ref00_Kept rfl ?_
  refine x_seq ?_
  refine x_region rfl ?_
  refine x_as rfl rfl trivial rfl ?_  -- ref.go:307 assign False
  refine xl_nil ?_
  refine x_seq ?_
  refine x_seq ?_
  refine x_region rfl ?_
  refine x_mv rfl rfl trivial rfl ?_  -- ref.go:308 move t0
  refine x_mv rfl rfl trivial rfl ?_  -- ref.go:308 move t1
  refine x_call rfl rfl trivial cal_ref00_EqBytes rfl (ct_ref00_EqBytes (l := l) (l' := l) hw (spareB hp) (ka.of (by repeat (first | exact Suf.refl _ | apply Suf.cons))) (by omega) (by omega)) rfl (fun w v9 hv => ?_)  -- ref.go:308 call f19 coppice/coppiceref00.EqBytes(t7, t8)
  obtain ⟨rfl, hw⟩ := hv
  refine x_notp rfl rfl trivial rfl ?_  -- ref.go:308 unOp "not" 4 9
  refine xl_nil ?_
  refine x_if rfl (fun h1 => ?_) (fun h1 => ?_)
  · -- yes
    exact absurd rfl h1
  · -- no
    refine x_skip ?_
    refine x_seq ?_
    refine x_region rfl ?_
    refine x_mv rfl rfl trivial rfl ?_  -- ref.go:311 move t0
    refine x_mv rfl rfl trivial rfl ?_  -- ref.go:311 move t1
    refine x_len rfl rfl trivial rfl U_sl_uint8 rfl ?_  -- ref.go:311 len(t12)
    refine x_addi rfl rfl trivial rfl rfl (by omega) ?_  -- ref.go:311 add[3] t13 64
    rw [show ((l.length : Int) + 64) = ((l.length + 64 : Nat) : Int) by omega]
    -- ref.go:311 slice[23] t11 [-:t14:-]
    refine x_cutH rfl rfl trivial U_sl_uint8 szs_uint8 rfl (by simp) rfl ⟨by omega, by omega⟩ ?_
    simp only [Int.toNat_natCast]
    refine x_as rfl rfl trivial rfl ?_  -- ref.go:311 assign t15
    refine xl_nil ?_
    refine x_seq ?_
    refine x_seq ?_
    refine x_region rfl ?_
    refine x_mv rfl rfl trivial rfl ?_  -- ref.go:312 move t1
    refine x_len rfl rfl trivial rfl U_sl_uint8 rfl ?_  -- ref.go:312 len(t16)
    refine x_as rfl rfl trivial rfl ?_  -- ref.go:312 assign t17
    refine xl_nil ?_
    refine x_block ?_
    refine x_loop (fun m e w => ∃ k : Nat, l.length ≤ k ∧ k ≤ l.length + 64 ∧ m = l.length + 64 - k ∧ e = [(5, .slice (some ⟨b, 0, none⟩) (l.length + 64) (l.length + 64)), (6, .int .i64 k)] ∧ Sat G L w)
      (m := 64) (e₀ := [(5, .slice (some ⟨b, 0, none⟩) (l.length + 64) (l.length + 64)), (6, .int .i64 l.length)]) (by repeat (first | exact Sub.nil _ | refine Sub.cons rfl ?_))
      ⟨l.length, Nat.le_refl _, by omega, by omega, rfl, hw⟩ ?_
    rintro m e w ⟨k, hlk, hk, rfl, rfl, hw⟩
    refine x_seq ?_
    refine x_seq ?_
    refine x_region rfl ?_
    refine x_mv rfl rfl trivial rfl ?_  -- ref.go:312 move t6
    refine x_mv rfl rfl trivial rfl ?_  -- ref.go:312 move t5
    refine x_len rfl rfl trivial rfl U_sl_uint8 rfl ?_  -- ref.go:312 len(t19)
    refine x_lt rfl rfl trivial rfl rfl ?_  -- ref.go:312 lss[3] t18 t20
    refine xl_nil ?_
    refine x_if rfl (fun h2 => ?_) (fun h2 => ?_)
    · -- yes
      have hk' : k < l.length + 64 := by omega
      have hsg : (spareV l)[0 + (k : Int).toNat]? = some (mark k) := by rw [Int.toNat_natCast, Nat.zero_add, spareV_get hk', if_neg (by omega)]
      refine x_skip ?_
      refine x_seq ?_
      refine x_block ?_
      refine x_seq ?_
      refine x_region rfl ?_
      refine x_mv rfl rfl trivial rfl ?_  -- ref.go:313 move t5
      refine x_mv rfl rfl trivial rfl ?_  -- ref.go:313 move t6
      refine x_idx1 rfl rfl trivial U_sl_uint8 sz_uint8 rfl rfl ⟨by omega, by omega⟩ ?_  -- ref.go:313 indexAddr[23] t24 [t25] 
      refine x_ld rfl rfl trivial rfl (Loads.blk1 one_uint8 hw hp hsg) ?_  -- ref.go:313 load[5] t26
      refine x_mv rfl rfl trivial rfl ?_  -- ref.go:313 move t6
      refine x_xor rfl rfl trivial rfl rfl ?_  -- ref.go:313 xor[3] 165 t28
      refine x_conv rfl rfl trivial rfl U_int U_uint8 rfl ?_  -- ref.go:313 convert 3 5 29
      refine x_ne rfl rfl trivial rfl rfl rfl ?_  -- ref.go:313 neq[5] t27 t30
      refine xl_nil ?_
      refine x_if rfl (fun h3 => ?_) (fun h3 => ?_)
      · -- yes
        exact absurd rfl h3
      · -- no
        refine x_skip ?_
        refine x_region rfl ?_
        refine x_mv rfl rfl trivial rfl ?_  -- ref.go:312 move t6
        refine x_addi rfl rfl trivial rfl rfl (by omega) ?_  -- ref.go:312 add[3] t22 1
        refine x_as rfl rfl trivial rfl ?_  -- ref.go:312 assign t23
        refine xl_nil ?_
        exact ⟨l.length + 64 - (k + 1), by omega, [(5, _), (6, .int .i64 (k + 1 : Nat))], (by repeat (first | exact Sub.nil _ | refine Sub.cons rfl ?_)), k + 1, by omega, by omega, rfl, rfl, hw⟩
    · -- no
      refine x_exit rfl ?_  -- exit 0
      refine x_seq ?_
      refine x_region rfl ?_
      refine x_as rfl rfl trivial rfl ?_  -- ref.go:317 assign True
      refine xl_nil ?_
      refine x_ret ?_
      exact end1 rfl rfl ⟨rfl, hw⟩

end
end Go.Proofs.Ytekilljcoplacaa.X
