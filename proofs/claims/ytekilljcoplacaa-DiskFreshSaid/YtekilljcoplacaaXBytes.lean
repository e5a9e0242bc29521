/- Lists of bytes: what they are in memory, and the helpers of the references on them. -/
import Derived.Test.YtekilljcoplacaaXBase
namespace Go.Proofs.Ytekilljcoplacaa.X
set_option linter.unusedVariables false
set_option linter.unusedSimpArgs false

def bv (b : UInt8) : Value := .int .u8 b.toNat
def bys (l : List UInt8) : List Value := l.map bv

theorem bys_length (l : List UInt8) : (bys l).length = l.length := by simp [bys]
theorem bys_append (l m : List UInt8) : bys (l ++ m) = bys l ++ bys m := by simp [bys]
theorem bys_take (l : List UInt8) (k : Nat) : bys (l.take k) = (bys l).take k := by simp [bys, List.map_take]
theorem bys_drop (l : List UInt8) (k : Nat) : bys (l.drop k) = (bys l).drop k := by simp [bys, List.map_drop]
theorem bys_get {l : List UInt8} {k : Nat} (h : k < l.length) : (bys l)[k]? = some (bv (l.getD k 0)) := by simp [bys, h]
theorem ones_bys (l : List UInt8) : Ones (bys l) := fun u hu => by obtain ⟨b, _, rfl⟩ := List.mem_map.1 hu; rfl
theorem ones_bv (b : UInt8) : Ones [bv b] := ones_bys [b]
theorem bv_inj {a b : UInt8} (h : bv a = bv b) : a = b := by simp [bv] at h; exact UInt8.toNat_inj.1 (by omega)
theorem bys_inj {l m : List UInt8} (h : bys l = bys m) : l = m := by
  induction l generalizing m with
  | nil => cases m with
    | nil => rfl
    | cons b m => simp [bys] at h
  | cons a l ih => cases m with
    | nil => simp [bys] at h
    | cons b m => simp only [bys, List.map_cons, List.cons.injEq] at h; rw [bv_inj h.1, ih h.2]
theorem take_succ_getD {α : Type} (l : List α) (k : Nat) (d : α) (h : k < l.length) : l.take (k + 1) = l.take k ++ [l.getD k d] := by
  rw [List.take_succ_eq_append_getElem h]; simp [h]
theorem drop_getD {α : Type} (l : List α) (k : Nat) (d : α) (h : k < l.length) : l.drop k = l.getD k d :: l.drop (k + 1) := by
  rw [List.drop_eq_getElem_cons h]; simp [h]

/-- The slice 'v' is this list of bytes. -/
def SlB (v : Value) (l : List UInt8) (w : World) : Prop := ((∃ a, v = .slice a 0 0) ∧ l = []) ∨ ∃ b o cap, v = .slice (some ⟨b, o, none⟩) l.length cap ∧ l.length ≤ cap ∧ Rd w ⟨b, o, none⟩ (bys l)

theorem SlB.cell {w : World} {b o : Nat} {l : List UInt8} (h : Rd w ⟨b, o, none⟩ (bys l)) {i : Int} (h0 : 0 ≤ i ∧ i < l.length) : w.cell? ⟨b, o + i.toNat, none⟩ = some (bv (l.getD i.toNat 0)) := by
  have := h i.toNat _ (bys_get (by omega)); rwa [add_lit] at this

theorem Rd.blk0 {G : Gh} {L R : List Assn} {w : World} {b T : Nat} {l : List Value} (hw : Sat G L w) (p : Pick (blk b l T) L R) : Rd w ⟨b, 0, none⟩ l := by have := Rd.of_blk (o := 0) hw p; simpa using this

/-- What a row of bytes is. -/
theorem SlB.row {T : Nat} {v : Value} {l : List UInt8} : Knows [row T 1 v l.length (bys l)] (SlB v l) := fun g w hw => by
  obtain ⟨hl, h | ⟨b, cap, cur, rfl, h1, h2, h3, h4⟩⟩ := row_open hw
  · obtain ⟨rfl, _, h5, _⟩ := h
    refine .inl ⟨⟨none, rfl⟩, ?_⟩
    cases l with
    | nil => rfl
    | cons _ _ => simp [bys] at h5
  · refine .inr ⟨b, 0, cap, rfl, h1, ?_⟩
    have := (Rd.blk0 h4 .here).take (bys l).length
    simpa using this

section
variable {G : Gh} {L : List Assn} {w : World} {v v' : Value} {l l' : List UInt8}

theorem ct_ref00_CopyBytes (hw : Sat G L w) (kl : Knows L (SlB v l)) (hl : l.length ≤ 140737488355328) :
    Calls Try.prog 15 #[v] w (Ret fun v' w' => Sat G (row 5 1 v' l.length (bys l) :: L) w') := by
  obtain ⟨a, cap, rfl⟩ : ∃ a cap, v = .slice a l.length cap := by
    rcases kl.at hw with ⟨⟨a, rfl⟩, rfl⟩ | ⟨b, o, cap, rfl, _⟩
    · exact ⟨a, 0, rfl⟩
    · exact ⟨_, cap, rfl⟩
  refine calls_of_x (args := [_]) func_ref00_CopyBytes rfl nt_ref00_CopyBytes rfl ?_
  refine x_seq ?_
  refine x_region rfl ?_
  refine x_as rfl rfl trivial rfl ?_  -- ref.go:213 assign {'nilslice': 1}
  refine xl_nil ?_
  refine x_seq ?_
  refine x_region rfl ?_
  refine x_mv rfl rfl trivial rfl ?_  -- ref.go:214 move t0
  refine x_len rfl rfl trivial rfl U_sl_uint8 rfl ?_  -- ref.go:214 len(t5)
  refine x_mks rfl rfl trivial U_sl_uint8 sz_uint8 by_uint8 z_uint8 rfl rfl ⟨by omega, by omega⟩ (by omega) (by omega) hw rfl (fun w b7 hw => ?_)  -- ref.go:214 makeSlice 23 0 6
  refine x_as rfl rfl trivial rfl ?_  -- ref.go:214 assign t7
  refine xl_nil ?_
  refine x_seq ?_
  refine x_seq ?_
  refine x_region rfl ?_
  refine x_as rfl rfl trivial rfl ?_  -- ref.go:215 assign 0
  refine xl_nil ?_
  refine x_block ?_
  -- LOOP; named slots written in it: [(3, 'out'), (4, 'i')]
  refine x_loop (fun m e w => ∃ (k : Nat) (u : Value), k ≤ l.length ∧ m = l.length - k ∧ e = [(0, .slice a l.length cap), (3, u), (4, .int .i64 k)] ∧ Sat G (row 5 1 u k (bys (l.take k)) :: L) w)
    (m := l.length) (e₀ := [(0, .slice a l.length cap), (3, .slice (some ⟨b7, 0, none⟩) 0 l.length), (4, .int .i64 (0 : Nat))]) (by repeat (first | exact Sub.nil _ | refine Sub.cons rfl ?_))
    ⟨0, _, Nat.zero_le _, rfl, rfl, row_mk (xs := []) hw rfl (Nat.zero_le _) (by simp only [maxLen]; omega) (by simp)⟩ ?_
  rintro m e w ⟨k, u, hk, rfl, rfl, hw⟩
  refine x_seq ?_
  refine x_seq ?_
  refine x_region rfl ?_
  refine x_mv rfl rfl trivial rfl ?_  -- ref.go:215 move t4
  refine x_mv rfl rfl trivial rfl ?_  -- ref.go:215 move t0
  refine x_len rfl rfl trivial rfl U_sl_uint8 rfl ?_  -- ref.go:215 len(t9)
  refine x_lt rfl rfl trivial rfl rfl ?_  -- ref.go:215 lss[3] t8 t10
  refine xl_nil ?_
  refine x_if rfl (fun h1 => ?_) (fun h1 => ?_)
  · -- yes
    obtain ⟨b, o, rfl, hR⟩ : ∃ b o, a = some ⟨b, o, none⟩ ∧ Rd w ⟨b, o, none⟩ (bys l) := by
      rcases (kl.cons _).at hw with ⟨⟨_, h⟩, rfl⟩ | ⟨b, o, cap, h, hR⟩
      · simp at h1; omega
      · cases h; exact ⟨b, o, rfl, hR.2⟩
    refine x_skip ?_
    refine x_seq ?_
    refine x_block ?_
    refine x_region rfl ?_
    refine x_mv rfl rfl trivial rfl ?_  -- ref.go:216 move t3
    refine x_mv rfl rfl trivial rfl ?_  -- ref.go:216 move t0
    refine x_mv rfl rfl trivial rfl ?_  -- ref.go:216 move t4
    refine x_idx1 rfl rfl trivial U_sl_uint8 sz_uint8 rfl rfl ⟨by omega, by omega⟩ ?_  -- ref.go:216 indexAddr[23] t15 [t16]
    refine x_ld rfl rfl trivial rfl (Loads.one one_uint8 (SlB.cell hR ⟨by omega, by omega⟩)) ?_  -- ref.go:216 load[5] t17
    refine x_bs1 rfl rfl trivial U_sl_uint8 sz_uint8 zs_uint8 (by decide) rfl rfl rfl hw rfl (fun w b19 hw => ?_)  -- ref.go:216 buildSlice 23 1 [[0, 18]]
    refine x_app (m := k) (k := 1) rfl rfl trivial U_sl_uint8 sz_uint8 by_uint8 zs_uint8 rfl rfl hw (by repeat (first | with_reducible exact Pick.here | apply Pick.there)) (Rd.blk0 hw (by repeat (first | with_reducible exact Pick.here | apply Pick.there))) rfl (ones_bv _) (by simp only [maxLen]; omega) (by omega) rfl (fun w v20 hw => ?_)  -- ref.go:216 append(t14, t19)
    refine x_as rfl rfl trivial rfl ?_  -- ref.go:216 assign t20
    refine xl_nil ?_
    refine x_region rfl ?_
    refine x_mv rfl rfl trivial rfl ?_  -- ref.go:215 move t4
    refine x_addi rfl rfl trivial rfl rfl (by omega) ?_  -- ref.go:215 add[3] t12 1
    refine x_as rfl rfl trivial rfl ?_  -- ref.go:215 assign t13
    refine xl_nil ?_
    refine ⟨l.length - (k + 1), by omega, [(0, _), (3, v20), (4, .int .i64 (k + 1 : Nat))], (by repeat (first | exact Sub.nil _ | refine Sub.cons rfl ?_)), k + 1, v20, by omega, rfl, rfl, ?_⟩
    rw [take_succ_getD l k 0 (by omega), bys_append]
    exact hw.drop (.there .here)
  · -- no
    have hkl : k = l.length := by omega
    subst hkl
    refine x_exit rfl ?_  -- exit 0
    refine x_seq ?_
    refine x_region rfl ?_
    refine x_mv rfl rfl trivial rfl ?_  -- ref.go:218 move t3
    refine x_as rfl rfl trivial rfl ?_  -- ref.go:218 assign t21
    refine xl_nil ?_
    refine x_ret ?_
    exact end1 rfl rfl (by rw [List.take_length] at hw; exact hw)


/-- Bytes of a slice that is known. -/
theorem SlB.at {b o n cap : Nat} {w : World} (h : SlB (.slice (some ⟨b, o, none⟩) n cap) l w) {i : Int} (h0 : 0 ≤ i ∧ i < l.length) : w.cell? ⟨b, o + i.toNat, none⟩ = some (bv (l.getD i.toNat 0)) := by
  rcases h with ⟨_, rfl⟩ | ⟨b', o', cap', h, hR⟩
  · simp at h0; omega
  · cases h; exact SlB.cell hR.2 h0
/-- Its form. -/
theorem SlB.form {w : World} (h : SlB v l w) : ∃ a cap, v = .slice a l.length cap := by
  rcases h with ⟨⟨a, rfl⟩, rfl⟩ | ⟨b, o, cap, rfl, _⟩
  · exact ⟨a, 0, rfl⟩
  · exact ⟨_, cap, rfl⟩
theorem SlB.nn {a : Option Addr} {n cap : Nat} {w : World} (h : SlB (.slice a n cap) l w) (hn : 0 < l.length) : ∃ b o, a = some ⟨b, o, none⟩ := by
  rcases h with ⟨h, rfl⟩ | ⟨b, o, cap', h, _⟩
  · simp at hn
  · cases h; exact ⟨b, o, rfl⟩

def cmpB : List UInt8 → List UInt8 → Int
  | [], [] => 0
  | [], _ :: _ => -1
  | _ :: _, [] => 1
  | a :: x, b :: y => if a.toNat < b.toNat then -1 else if b.toNat < a.toNat then 1 else cmpB x y

theorem cmpB_eq : ∀ {l l' : List UInt8}, cmpB l l' = 0 ↔ l = l'
  | [], [] => by simp [cmpB]
  | [], _ :: _ => by simp [cmpB]
  | _ :: _, [] => by simp [cmpB]
  | a :: x, b :: y => by
    simp only [cmpB, List.cons.injEq]
    by_cases h : a.toNat < b.toNat
    · have : a ≠ b := fun e => by subst e; omega
      simp [h, this]
    · by_cases h2 : b.toNat < a.toNat
      · have : a ≠ b := fun e => by subst e; omega
        simp [h, h2, this]
      · have : a = b := UInt8.toNat_inj.1 (by omega)
        simp [h, h2, this, cmpB_eq]
theorem cmpB_drop : ∀ (k : Nat) {l l' : List UInt8}, l.take k = l'.take k → k ≤ l.length → k ≤ l'.length → cmpB l l' = cmpB (l.drop k) (l'.drop k)
  | 0, _, _, _, _, _ => rfl
  | k + 1, [], _, _, h, _ => by simp at h
  | k + 1, _ :: _, [], _, _, h => by simp at h
  | k + 1, a :: l, b :: l', h, h1, h2 => by
    simp only [List.take_succ_cons, List.cons.injEq] at h
    obtain ⟨rfl, h⟩ := h
    simp only [cmpB, Nat.lt_irrefl, if_false, List.drop_succ_cons]
    exact cmpB_drop k h (by simpa using h1) (by simpa using h2)

theorem ct_ref00_Compare (hw : Sat G L w) (ka : Knows L (SlB v l)) (kb : Knows L (SlB v' l')) (hl : l.length ≤ 140737488355328) (hl' : l'.length ≤ 140737488355328) :
    Calls Try.prog 50 #[v, v'] w (Ret fun r w' => r = .int .i64 (cmpB l l') ∧ Sat G L w') := by
  obtain ⟨a, cap, rfl⟩ := (ka.at hw).form
  obtain ⟨a', cap', rfl⟩ := (kb.at hw).form
  refine calls_of_x (args := [_, _]) func_ref00_Compare rfl nt_ref00_Compare rfl ?_
  refine x_seq ?_
  refine x_region rfl ?_
  refine x_as rfl rfl trivial rfl ?_  -- ref.go:72 assign 0
  refine xl_nil ?_
  refine x_seq ?_
  refine x_seq ?_
  refine x_region rfl ?_
  refine x_as rfl rfl trivial rfl ?_  -- ref.go:73 assign 0
  refine xl_nil ?_
  refine x_block ?_
  refine x_loop (fun m e w => ∃ k : Nat, k ≤ l.length ∧ k ≤ l'.length ∧ l.take k = l'.take k ∧ m = l.length - k ∧ e = [(0, .slice a l.length cap), (1, .slice a' l'.length cap'), (5, .int .i64 k)] ∧ Sat G L w)
    (m := l.length) (e₀ := [(0, .slice a l.length cap), (1, .slice a' l'.length cap'), (5, .int .i64 (0 : Nat))]) (by repeat (first | exact Sub.nil _ | refine Sub.cons rfl ?_))
    ⟨0, Nat.zero_le _, Nat.zero_le _, rfl, rfl, rfl, hw⟩ ?_
  rintro m e w ⟨k, hk, hk', he, rfl, rfl, hw⟩
  have hcd := cmpB_drop k he hk hk'
  refine x_seq ?_
  refine x_seq ?_
  refine x_region rfl ?_
  refine x_mv rfl rfl trivial rfl ?_  -- ref.go:73 move t5
  refine x_mv rfl rfl trivial rfl ?_  -- ref.go:73 move t0
  refine x_len rfl rfl trivial rfl U_sl_uint8 rfl ?_  -- ref.go:73 len(t7)
  refine x_lt rfl rfl trivial rfl rfl ?_  -- ref.go:73 lss[3] t6 t8
  refine x_mv rfl rfl trivial rfl ?_  -- ref.go:73 move t9
  refine xl_split (d := 10) rfl (fun h1 => ?_) (fun h1 => ?_)
  · -- yes
    refine x_mv rfl rfl ⟨_, rfl, rfl⟩ rfl ?_  -- ref.go:73 move t5
    refine x_mv rfl rfl ⟨_, rfl, rfl⟩ rfl ?_  -- ref.go:73 move t1
    refine x_len rfl rfl ⟨_, rfl, rfl⟩ rfl U_sl_uint8 rfl ?_  -- ref.go:73 len(t12)
    refine x_lt rfl rfl ⟨_, rfl, rfl⟩ rfl rfl ?_  -- ref.go:73 lss[3] t11 t13
    refine x_pickT rfl rfl trivial rfl rfl rfl ?_  -- ref.go:73 pick t10 ? t14 : False
    refine xl_nil ?_
    refine x_if rfl (fun h2 => ?_) (fun h2 => ?_)
    · -- yes
      obtain ⟨b, o, rfl⟩ := (ka.at hw).nn (by omega)
      obtain ⟨b', o', rfl⟩ := (kb.at hw).nn (by omega)
      rw [drop_getD l k 0 (by omega), drop_getD l' k 0 (by omega)] at hcd
      refine x_skip ?_
      refine x_seq ?_
      refine x_block ?_
      refine x_seq ?_
      refine x_seq ?_
      refine x_draw [0, 1, 2, 3, 4, 5, 6, 7, 8] mixed (by kernel_rfl) ?_  -- region 4
      replace hw := hw.drawn (w.drawn + 1)
      refine x_mv rfl rfl trivial rfl ?_  -- ref.go:74 move t0
      refine x_mv rfl rfl trivial rfl ?_  -- ref.go:74 move t5
      refine x_idx1 rfl rfl trivial U_sl_uint8 sz_uint8 rfl rfl ⟨by omega, by omega⟩ ?_  -- ref.go:74 indexAddr[23] t18 [t19] 
      refine x_ld rfl rfl trivial rfl (Loads.one one_uint8 ((ka.at hw).at ⟨by omega, by omega⟩)) ?_  -- ref.go:74 load[5] t20
      refine x_mv rfl rfl trivial rfl ?_  -- ref.go:74 move t1
      refine x_mv rfl rfl trivial rfl ?_  -- ref.go:74 move t5
      refine x_idx1 rfl rfl trivial U_sl_uint8 sz_uint8 rfl rfl ⟨by omega, by omega⟩ ?_  -- ref.go:74 indexAddr[23] t22 [t23] 
      refine x_ld rfl rfl trivial rfl (Loads.one one_uint8 ((kb.at hw).at ⟨by omega, by omega⟩)) ?_  -- ref.go:74 load[5] t24
      refine x_lt rfl rfl trivial rfl rfl ?_  -- ref.go:74 lss[5] t21 t25
      refine xl_nil ?_
      refine x_if rfl (fun h3 => ?_) (fun h3 => ?_)
      · -- yes
        simp only [Int.toNat_natCast] at h3
        refine x_seq ?_
        refine x_region rfl ?_
        refine x_as rfl rfl trivial rfl ?_  -- ref.go:75 assign -1
        refine xl_nil ?_
        refine x_ret ?_
        exact end1 rfl rfl ⟨by rw [hcd, cmpB, if_pos (by omega)], hw⟩
      · -- no
        refine x_skip ?_
        refine x_seq ?_
        refine x_draw [0, 1, 2, 3, 4, 5, 6, 7, 8] mixed (by kernel_rfl) ?_  -- region 6
        replace hw := hw.drawn (w.drawn + 1)
        refine x_mv rfl rfl trivial rfl ?_  -- ref.go:77 move t0
        refine x_mv rfl rfl trivial rfl ?_  -- ref.go:77 move t5
        refine x_idx1 rfl rfl trivial U_sl_uint8 sz_uint8 rfl rfl ⟨by omega, by omega⟩ ?_  -- ref.go:77 indexAddr[23] t27 [t28] 
        refine x_ld rfl rfl trivial rfl (Loads.one one_uint8 ((ka.at hw).at ⟨by omega, by omega⟩)) ?_  -- ref.go:77 load[5] t29
        refine x_mv rfl rfl trivial rfl ?_  -- ref.go:77 move t1
        refine x_mv rfl rfl trivial rfl ?_  -- ref.go:77 move t5
        refine x_idx1 rfl rfl trivial U_sl_uint8 sz_uint8 rfl rfl ⟨by omega, by omega⟩ ?_  -- ref.go:77 indexAddr[23] t31 [t32] 
        refine x_ld rfl rfl trivial rfl (Loads.one one_uint8 ((kb.at hw).at ⟨by omega, by omega⟩)) ?_  -- ref.go:77 load[5] t33
        refine x_gt rfl rfl trivial rfl rfl ?_  -- ref.go:77 gtr[5] t30 t34
        refine xl_nil ?_
        refine x_if rfl (fun h4 => ?_) (fun h4 => ?_)
        · -- yes
          simp only [Int.toNat_natCast] at h3 h4
          refine x_seq ?_
          refine x_region rfl ?_
          refine x_as rfl rfl trivial rfl ?_  -- ref.go:78 assign 1
          refine xl_nil ?_
          refine x_ret ?_
          exact end1 rfl rfl ⟨by rw [hcd, cmpB, if_neg (by omega), if_pos (by omega)], hw⟩
        · -- no
          simp only [Int.toNat_natCast] at h3 h4
          refine x_skip ?_
          refine x_region rfl ?_
          refine x_mv rfl rfl trivial rfl ?_  -- ref.go:73 move t5
          refine x_addi rfl rfl trivial rfl rfl (by omega) ?_  -- ref.go:73 add[3] t16 1
          refine x_as rfl rfl trivial rfl ?_  -- ref.go:73 assign t17
          refine xl_nil ?_
          refine ⟨l.length - (k + 1), by omega, [(0, _), (1, _), (5, .int .i64 (k + 1 : Nat))], (by repeat (first | exact Sub.nil _ | refine Sub.cons rfl ?_)), k + 1, by omega, by omega, ?_, rfl, rfl, hw⟩
          rw [take_succ_getD l k 0 (by omega), take_succ_getD l' k 0 (by omega), he, UInt8.toNat_inj.1 (show (l.getD k 0).toNat = (l'.getD k 0).toNat by omega)]
    · -- no
      have e2 : l'.drop k = [] := List.drop_eq_nil_of_le (by omega)
      rw [e2, drop_getD l k 0 (by omega)] at hcd
      refine x_exit rfl ?_  -- exit 0
      refine x_seq ?_
      refine x_seq ?_
      refine x_region rfl ?_
      refine x_mv rfl rfl trivial rfl ?_  -- ref.go:81 move t0
      refine x_len rfl rfl trivial rfl U_sl_uint8 rfl ?_  -- ref.go:81 len(t36)
      refine x_mv rfl rfl trivial rfl ?_  -- ref.go:81 move t1
      refine x_len rfl rfl trivial rfl U_sl_uint8 rfl ?_  -- ref.go:81 len(t38)
      refine x_lt rfl rfl trivial rfl rfl ?_  -- ref.go:81 lss[3] t37 t39
      refine xl_nil ?_
      refine x_if rfl (fun h5 => ?_) (fun h5 => ?_)
      · -- yes
        exact absurd h5 (by omega)
      · -- no
        refine x_skip ?_
        refine x_seq ?_
        refine x_seq ?_
        refine x_region rfl ?_
        refine x_mv rfl rfl trivial rfl ?_  -- ref.go:84 move t0
        refine x_len rfl rfl trivial rfl U_sl_uint8 rfl ?_  -- ref.go:84 len(t41)
        refine x_mv rfl rfl trivial rfl ?_  -- ref.go:84 move t1
        refine x_len rfl rfl trivial rfl U_sl_uint8 rfl ?_  -- ref.go:84 len(t43)
        refine x_gt rfl rfl trivial rfl rfl ?_  -- ref.go:84 gtr[3] t42 t44
        refine xl_nil ?_
        refine x_if rfl (fun h6 => ?_) (fun h6 => ?_)
        · -- yes
          refine x_seq ?_
          refine x_region rfl ?_
          refine x_as rfl rfl trivial rfl ?_  -- ref.go:85 assign 1
          refine xl_nil ?_
          refine x_ret ?_
          exact end1 rfl rfl ⟨by rw [hcd]; rfl, hw⟩
        · -- no
          exact absurd h6 (by omega)
  · -- no
    have e2 : l.drop k = [] := List.drop_eq_nil_of_le (by omega)
    rw [e2] at hcd
    refine xl_no rfl rfl rfl rfl rfl rfl ?_  -- passed over: move t5
    refine xl_no rfl rfl rfl rfl rfl rfl ?_  -- passed over: move t1
    refine xl_no rfl rfl rfl rfl rfl rfl ?_  -- passed over: len(t12)
    refine xl_no rfl rfl rfl rfl rfl rfl ?_  -- passed over: lss[3] t11 t13
    refine x_pickF rfl rfl trivial rfl rfl rfl ?_  -- ref.go:73 pick t10 ? t14 : False
    refine xl_nil ?_
    refine x_cond_false rfl ?_
    refine x_exit rfl ?_  -- exit 0
    refine x_seq ?_
    refine x_seq ?_
    refine x_region rfl ?_
    refine x_mv rfl rfl trivial rfl ?_  -- ref.go:81 move t0
    refine x_len rfl rfl trivial rfl U_sl_uint8 rfl ?_  -- ref.go:81 len(t36)
    refine x_mv rfl rfl trivial rfl ?_  -- ref.go:81 move t1
    refine x_len rfl rfl trivial rfl U_sl_uint8 rfl ?_  -- ref.go:81 len(t38)
    refine x_lt rfl rfl trivial rfl rfl ?_  -- ref.go:81 lss[3] t37 t39
    refine xl_nil ?_
    refine x_if rfl (fun h7 => ?_) (fun h7 => ?_)
    · -- yes
      refine x_seq ?_
      refine x_region rfl ?_
      refine x_as rfl rfl trivial rfl ?_  -- ref.go:82 assign -1
      refine xl_nil ?_
      refine x_ret ?_
      exact end1 rfl rfl ⟨by rw [hcd, drop_getD l' k 0 (by omega)]; rfl, hw⟩
    · -- no
      refine x_skip ?_
      refine x_seq ?_
      refine x_seq ?_
      refine x_region rfl ?_
      refine x_mv rfl rfl trivial rfl ?_  -- ref.go:84 move t0
      refine x_len rfl rfl trivial rfl U_sl_uint8 rfl ?_  -- ref.go:84 len(t41)
      refine x_mv rfl rfl trivial rfl ?_  -- ref.go:84 move t1
      refine x_len rfl rfl trivial rfl U_sl_uint8 rfl ?_  -- ref.go:84 len(t43)
      refine x_gt rfl rfl trivial rfl rfl ?_  -- ref.go:84 gtr[3] t42 t44
      refine xl_nil ?_
      refine x_if rfl (fun h8 => ?_) (fun h8 => ?_)
      · -- yes
        exact absurd h8 (by omega)
      · -- no
        refine x_skip ?_
        refine x_seq ?_
        refine x_region rfl ?_
        refine x_as rfl rfl trivial rfl ?_  -- ref.go:87 assign 0
        refine xl_nil ?_
        refine x_ret ?_
        exact end1 rfl rfl ⟨by rw [hcd, List.drop_eq_nil_of_le (by omega)]; rfl, hw⟩

theorem ct_ref00_EqBytes (hw : Sat G L w) (ka : Knows L (SlB v l)) (kb : Knows L (SlB v' l')) (hl : l.length ≤ 140737488355328) (hl' : l'.length ≤ 140737488355328) :
    Calls Try.prog 19 #[v, v'] w (Ret fun r w' => r = .bool (decide (l = l')) ∧ Sat G L w') := by
  refine calls_of_x (args := [_, _]) func_ref00_EqBytes rfl nt_ref00_EqBytes rfl ?_
  refine x_seq ?_
  refine x_region rfl ?_
  refine x_as rfl rfl trivial rfl ?_  -- ref.go:91 assign False
  refine xl_nil ?_
  refine x_seq ?_
  refine x_region rfl ?_
  refine x_mv rfl rfl trivial rfl ?_  -- ref.go:91 move t0
  refine x_mv rfl rfl trivial rfl ?_  -- ref.go:91 move t1
  refine x_call rfl rfl trivial cal_ref00_Compare rfl (ct_ref00_Compare hw ka kb hl hl') rfl (fun w v7 hv => ?_)  -- ref.go:91 call f50 coppice/coppiceref00.Compare(t5, t6)
  obtain ⟨rfl, hw⟩ := hv
  refine x_eq rfl rfl trivial rfl rfl rfl ?_  -- ref.go:91 eql[3] t7 0
  refine x_as rfl rfl trivial rfl ?_  -- ref.go:91 assign t8
  refine xl_nil ?_
  refine x_ret ?_
  exact end1 rfl rfl ⟨by simp only [cmpB_eq], hw⟩


theorem SlB.rd {b o n cap : Nat} {w : World} (h : SlB (.slice (some ⟨b, o, none⟩) n cap) l w) : Rd w ⟨b, o, none⟩ (bys l) := by
  rcases h with ⟨_, rfl⟩ | ⟨b', o', cap', h, hR⟩
  · exact Rd.nil
  · cases h; exact hR.2
theorem SlB.rdd {b o n cap : Nat} {w : World} (h : SlB (.slice (some ⟨b, o, none⟩) n cap) l w) (k : Nat) : Rd w ⟨b, o + k, none⟩ (bys (l.drop k)) := by rw [bys_drop]; exact h.rd.drop k

/-- Two arrays of bytes, against one another. -/
theorem run_equal_arr {P : Program} {s c : TypeId} {m : Nat} {a b : List UInt8} (hs : P.underlying s = some (.array m c)) (hc : P.underlying c = some (.int .u8)) (hz : (P.info? c).map (·.size) = some 1) (hl : a.length = m) (hl' : b.length = m) (w : World) :
    (Op.equal s (.agg (bys a).toArray) (.agg (bys b).toArray)).run P w = .ok (decide (a = b)) w := by
  have : ∀ q, (Op.equalIn (q + 2) s (.agg (bys a).toArray) (.agg (bys b).toArray)).run P w = .ok (decide (a = b)) w := fun q => by
    obtain ⟨inf, hi, hsz⟩ : ∃ inf, P.info? c = some inf ∧ inf.size = 1 := by
      cases hi : P.info? c with
      | none => simp [hi] at hz
      | some inf => exact ⟨inf, rfl, by simpa [hi] using hz⟩
    rw [show q + 2 = (q + 1) + 1 from rfl]
    unfold Op.equalIn
    simp only [Sem.run_bind, run_underlying hs, Result.andThen_ok, sizeOf, typeInfo, program, Sem.run, hi, hsz, Sem.run_pure, Nat.mul_one]
    rw [Std.Legacy.Range.forIn_eq_forIn_range']
    have hpart : ∀ (x : List UInt8) (j : Nat) (w : World), j < x.length → (part c (bys x).toArray j).run P w = .ok (bv (x.getD j 0)) w := fun x j w hj => by
      have h1 := bys_get hj
      have hagg : aggB P c = false := by unfold aggB; rw [hc]
      simp [part, run_isAgg hagg (by rw [hc]; rfl), h1]
    have hf : ∀ i ∈ List.range' 0 m 1, ∀ w : World, (do
        let x ← part c (bys a).toArray i
        let y ← part c (bys b).toArray i
        let z ← Op.equalIn (q + 1) c x y
        if (!z) = true then pure (ForInStep.done (some false, ())) else pure (ForInStep.yield (none, ())) : Sem (ForInStep (Option Bool × Unit))).run P w =
          .ok (if a.getD i 0 = b.getD i 0 then .yield (none, ()) else .done (some false, ())) w := fun i hi w => by
      have hi' : i < m := by simpa using hi
      have he : (Op.equalIn (q + 1) c (bv (a.getD i 0)) (bv (b.getD i 0))).run P w = .ok (decide (a.getD i 0 = b.getD i 0)) w := by
        rw [bv, bv, run_equalIn_int w q c .u8 .u8 _ _ hc]
        congr 1
        by_cases h : a.getD i 0 = b.getD i 0
        · rw [h]; simp
        · have : ¬ ((a.getD i 0).toNat : Int) = (b.getD i 0).toNat := fun hh => h (UInt8.toNat_inj.1 (by omega))
          rw [decide_eq_false h]; exact beq_eq_false_iff_ne.2 this
      simp only [Sem.run_bind, hpart a i w (by omega), hpart b i w (by omega), Result.andThen_ok, he]
      by_cases h : a.getD i 0 = b.getD i 0
      · rw [if_pos h, decide_eq_true h]; rfl
      · rw [if_neg h, decide_eq_false h]; rfl
    have hall : ∀ (l : List Nat) (w : World) (f : Nat → Option Bool × Unit → Sem (ForInStep (Option Bool × Unit))),
        (∀ i ∈ l, ∀ w : World, (f i (none, ())).run P w = .ok (if a.getD i 0 = b.getD i 0 then .yield (none, ()) else .done (some false, ())) w) →
        (forIn l ((none, ()) : Option Bool × Unit) f).run P w = .ok (if l.all (fun i => decide (a.getD i 0 = b.getD i 0)) then none else some false, ()) w := by
      intro l
      induction l with
      | nil => intro w f _; simp
      | cons i l ih =>
        intro w f h
        simp only [List.forIn_cons, Sem.run_bind, h i (List.mem_cons_self ..) w, Result.andThen_ok]
        by_cases hh : a.getD i 0 = b.getD i 0
        · rw [if_pos hh]
          simp only [List.all_cons, decide_eq_true hh, Bool.true_and]
          exact ih w f (fun j hj => h j (List.mem_cons_of_mem _ hj))
        · rw [if_neg hh]
          simp only [List.all_cons, decide_eq_false hh, Bool.false_and]
          rfl
    have hr := hall (List.range' 0 m 1) w (fun i _ => do
        let x ← part c (bys a).toArray i
        let y ← part c (bys b).toArray i
        let z ← Op.equalIn (q + 1) c x y
        if (!z) = true then pure (ForInStep.done (some false, ())) else pure (ForInStep.yield (none, ()))) hf
    have hsz' : (Std.Legacy.Range.size { start := 0, stop := m, step := 1, step_pos := by decide }) = m := by simp [Std.Legacy.Range.size]
    simp only [hsz']
    refine (congrArg (fun r => Result.andThen r _) hr).trans ?_
    have heq : (List.range' 0 m 1).all (fun i => decide (a.getD i 0 = b.getD i 0)) = decide (a = b) := by
      rw [Bool.eq_iff_iff]
      simp only [List.all_eq_true, decide_eq_true_eq]
      constructor
      · intro h
        apply List.ext_getElem (by omega)
        intro i h1 h2
        have := h i (by simpa using (show i < m by omega))
        simpa [h1, h2] using this
      · intro h i _; rw [h]
    rw [heq]
    by_cases h : a = b <;> simp [h]
  exact this 9998


theorem SlB.cap {b o n cap : Nat} {w : World} (h : SlB (.slice (some ⟨b, o, none⟩) n cap) l w) : l.length ≤ cap := by
  rcases h with ⟨_, rfl⟩ | ⟨b', o', cap', h, hR⟩
  · simp
  · cases h; exact hR.1

/-- The slice 'v' is these values, each of one cell. -/
def SlV (v : Value) (cs : List Value) (w : World) : Prop := ((∃ a, v = .slice a 0 0) ∧ cs = []) ∨ ∃ b o cap, v = .slice (some ⟨b, o, none⟩) cs.length cap ∧ cs.length ≤ cap ∧ Rd w ⟨b, o, none⟩ cs
theorem SlV.form {cs : List Value} {w : World} (h : SlV v cs w) : ∃ a cap, v = .slice a cs.length cap := by
  rcases h with ⟨⟨a, rfl⟩, rfl⟩ | ⟨b, o, cap, rfl, _⟩
  · exact ⟨a, 0, rfl⟩
  · exact ⟨_, cap, rfl⟩
theorem SlV.nn {cs : List Value} {a : Option Addr} {n cap : Nat} {w : World} (h : SlV (.slice a n cap) cs w) (hn : 0 < cs.length) : ∃ b o, a = some ⟨b, o, none⟩ := by
  rcases h with ⟨h, rfl⟩ | ⟨b, o, cap', h, _⟩
  · simp at hn
  · cases h; exact ⟨b, o, rfl⟩
theorem SlV.at {cs : List Value} {b o n cap : Nat} {w : World} (h : SlV (.slice (some ⟨b, o, none⟩) n cap) cs w) {i : Int} {u : Value} (hu : cs[i.toNat]? = some u) : w.cell? ⟨b, o + i.toNat, none⟩ = some u := by
  rcases h with ⟨_, rfl⟩ | ⟨b', o', cap', h, _, hR⟩
  · simp at hu
  · cases h; have := hR i.toNat u hu; rwa [add_lit] at this
theorem SlV.row {T : Nat} {v : Value} {cs : List Value} : Knows [row T 1 v cs.length cs] (SlV v cs) := fun g w hw => by
  obtain ⟨hl, h | ⟨b, cap, cur, rfl, h1, h2, h3, h4⟩⟩ := row_open hw
  · obtain ⟨rfl, _, h5, _⟩ := h; exact .inl ⟨⟨none, rfl⟩, h5⟩
  · refine .inr ⟨b, 0, cap, rfl, h1, ?_⟩
    have := (Rd.blk0 h4 .here).take cs.length
    simpa using this
theorem SlB.iffV {w : World} : SlB v l w ↔ SlV v (bys l) w := by
  constructor
  · rintro (⟨h, rfl⟩ | ⟨b, o, cap, rfl, h1, h2⟩)
    · exact .inl ⟨h, rfl⟩
    · exact .inr ⟨b, o, cap, by rw [bys_length], by rw [bys_length]; exact h1, h2⟩
  · rintro (⟨h0, h⟩ | ⟨b, o, cap, rfl, h1, h2⟩)
    · refine .inl ⟨h0, ?_⟩; cases l with
      | nil => rfl
      | cons _ _ => simp [bys] at h
    · rw [bys_length] at h1 ⊢; exact .inr ⟨b, o, cap, rfl, h1, h2⟩

theorem Pick.app {A : Assn} {L R : List Assn} (p : Pick A L R) : ∀ M : List Assn, Pick A (M ++ L) (M ++ R)
  | [] => p
  | _ :: M => .there (p.app M)
theorem Knows.app {L : List Assn} {q : World → Prop} (k : Knows L q) : ∀ M : List Assn, Knows (M ++ L) q
  | [] => k
  | A :: M => (k.app M).cons A

theorem flat_chunk {α : Type} {f : α → List Value} {z : Nat} : ∀ {xs : List α} {cur : List Value} {k : Nat} (d : α), (∀ x ∈ xs, (f x).length = z) → k < xs.length → ((xs.flatMap f ++ cur).drop (k * z)).take z = f (xs.getD k d)
  | x :: xs, cur, 0, d, h, _ => by
    have := h x (List.mem_cons_self ..)
    simp [List.flatMap_cons, List.take_append, this]
  | x :: xs, cur, k + 1, d, h, hk => by
    have hx := h x (List.mem_cons_self ..)
    have ih := flat_chunk (xs := xs) (cur := cur) (k := k) d (fun y hy => h y (List.mem_cons_of_mem _ hy)) (by simpa using hk)
    rw [List.flatMap_cons, List.append_assoc, List.drop_append, List.drop_eq_nil_of_le (by rw [hx, Nat.add_mul]; omega), List.nil_append, hx, show (k + 1) * z - z = k * z by rw [Nat.add_mul]; omega]
    simpa using ih
theorem flat_length {α : Type} {f : α → List Value} {z : Nat} : ∀ {xs : List α}, (∀ x ∈ xs, (f x).length = z) → (xs.flatMap f).length = xs.length * z
  | [], _ => by simp
  | x :: xs, h => by
    rw [List.flatMap_cons, List.length_append, h x (List.mem_cons_self ..), flat_length (fun y hy => h y (List.mem_cons_of_mem _ hy)), List.length_cons, Nat.add_mul]; omega

end
end Go.Proofs.Ytekilljcoplacaa.X
