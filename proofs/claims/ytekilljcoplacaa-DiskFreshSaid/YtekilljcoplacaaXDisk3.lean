/- The disk of the program: From, Image. -/
import Derived.Test.YtekilljcoplacaaXDisk2
namespace Go.Proofs.Ytekilljcoplacaa.X
set_option linter.unusedVariables false
set_option linter.unusedSimpArgs false

/-- the blocks of a row of bytes -/
def chunk (l : Bys) (i : Nat) : Bys := (l.drop (512 * i)).take 512
def part (l : Bys) (n k : Nat) : List Bys := (List.range n).map fun i => if i < k then chunk l i else zb
def chunks (l : Bys) (n : Nat) : List Bys := (List.range n).map (chunk l)

theorem part_length (l : Bys) (n k : Nat) : (part l n k).length = n := by simp [part]
theorem chunks_length (l : Bys) (n : Nat) : (chunks l n).length = n := by simp [chunks]
theorem part_zero (l : Bys) (n : Nat) : part l n 0 = List.replicate n zb := by
  apply List.ext_getElem <;> simp [part]
theorem part_all (l : Bys) (n : Nat) : part l n n = chunks l n := by
  apply List.ext_getElem
  · simp [part, chunks]
  · intro i h1 h2
    simp [part, chunks] at h1 h2 ⊢
    intro h; omega
theorem part_succ (l : Bys) {n k : Nat} (h : k < n) : part l n (k + 1) = (part l n k).set k (chunk l k) := by
  apply List.ext_getElem
  · simp [part]
  · intro i h1 h2
    simp only [part, List.getElem_map, List.getElem_range, List.getElem_set]
    by_cases hi : k = i
    · subst hi; simp
    · rw [if_neg hi]
      by_cases h3 : i < k
      · rw [if_pos h3, if_pos (by omega)]
      · rw [if_neg h3, if_neg (by omega)]
theorem chunk_length {l : Bys} {i n : Nat} (hl : l.length = 512 * n) (hi : i < n) : (chunk l i).length = 512 := by
  simp only [chunk, List.length_take, List.length_drop]; omega
theorem chunks_blk {l : Bys} {n : Nat} (hl : l.length = 512 * n) : ∀ c ∈ chunks l n, c.length = 512 := fun c hc => by
  simp only [chunks, List.mem_map, List.mem_range] at hc
  obtain ⟨i, hi, rfl⟩ := hc
  exact chunk_length hl hi

/-- From a row of bytes. -/
def Fits8 (l : Bys) : Prop := l.length % 512 = 0 ∧ 8 ≤ l.length / 512 ∧ l.length / 512 ≤ 65536
instance (l : Bys) : Decidable (Fits8 l) := inferInstanceAs (Decidable (_ ∧ _ ∧ _))
def Dk.new (l : List Bys) : Dk := ⟨l, [], true, -1, 0, 0⟩
theorem Dk.Ok.new {l : List Bys} (h1 : 8 ≤ l.length ∧ l.length ≤ 65536) (h2 : ∀ c ∈ l, c.length = 512) : (Dk.new l).Ok :=
  ⟨h1.1, h1.2, h2, by simp [Dk.new], by simp [Dk.new], by simp [Dk.new], by simp [Dk.new]⟩

section
variable {G : Gh} {L R : List Assn} {w : World} {p : Nat} {D : Dk}

theorem ct_disk_From {v : Value} {l : Bys} (hw : Sat G L w) (ka : Knows L (SlB v l)) (hll : l.length ≤ 140737488355328) :
    Calls Try.prog 16 #[v] w (Ret fun r w' => (¬ Fits8 l ∧ r = .tuple #[.pointer none, .int .i64 1] ∧ Sat G L w') ∨
      (Fits8 l ∧ ∃ p, r = .tuple #[.pointer (some ⟨p, 0, none⟩), .int .i64 0] ∧ Sat G (dsk p (Dk.new (chunks l (l.length / 512))) :: L) w')) := by
  obtain ⟨a, cap, rfl⟩ := ((ka.of (by repeat (first | exact Suf.refl _ | apply Suf.cons))).at hw).form
  obtain ⟨n, hn⟩ : ∃ n : Nat, l.length / 512 = n := ⟨_, rfl⟩
  have hq : (l.length : Int) / 512 = (n : Int) := by omega
  refine calls_of_x (args := [_]) func_disk_From rfl nt_disk_From rfl ?_
  refine x_seq ?_
  refine x_region rfl ?_
  refine x_as rfl rfl trivial rfl ?_  -- disk.go:43 assign {'nilptr': 1}
  refine x_as rfl rfl trivial rfl ?_  -- disk.go:43 assign 0
  refine xl_nil ?_
  refine x_seq ?_
  refine x_region rfl ?_
  refine x_mv rfl rfl trivial rfl ?_  -- disk.go:44 move t0
  refine x_len rfl rfl trivial rfl U_sl_uint8 rfl ?_  -- disk.go:44 len(t8)
  refine x_quoi rfl rfl trivial rfl rfl (by omega) (by omega) ?_  -- disk.go:44 quo[3] t9 512
  rw [hq]
  refine x_as rfl rfl trivial rfl ?_  -- disk.go:44 assign t10
  refine xl_nil ?_
  refine x_seq ?_
  refine x_seq ?_
  refine x_region rfl ?_
  refine x_mv rfl rfl trivial rfl ?_  -- disk.go:45 move t4
  refine x_muli rfl rfl trivial rfl rfl (by omega) ?_  -- disk.go:45 mul[3] t11 512
  refine x_mv rfl rfl trivial rfl ?_  -- disk.go:45 move t0
  refine x_len rfl rfl trivial rfl U_sl_uint8 rfl ?_  -- disk.go:45 len(t13)
  refine x_ne rfl rfl trivial rfl rfl rfl ?_  -- disk.go:45 neq[3] t12 t14
  refine x_mv rfl rfl trivial rfl ?_  -- disk.go:45 move t15
  refine xl_split (d := 16) rfl (fun h1 => ?_) (fun h1 => ?_)
  · -- yes
    refine xl_no rfl rfl rfl rfl rfl rfl ?_  -- passed over: move t4
    refine xl_no rfl rfl rfl rfl rfl rfl ?_  -- passed over: lss[3] t17 8
    refine x_pickT rfl rfl trivial rfl rfl rfl ?_  -- disk.go:45 pick t16 ? True : t18
    refine x_mv rfl rfl trivial rfl ?_  -- disk.go:45 move t19
    refine xl_no rfl rfl rfl rfl rfl rfl ?_  -- passed over: move t4
    refine xl_no rfl rfl rfl rfl rfl rfl ?_  -- passed over: gtr[3] t21 65536
    refine x_pickT rfl rfl trivial rfl rfl rfl ?_  -- disk.go:45 pick t20 ? True : t22
    refine xl_nil ?_
    refine x_cond_true rfl ?_
    refine x_seq ?_
    refine x_region rfl ?_
    refine x_as rfl rfl trivial rfl ?_  -- disk.go:46 assign {'nilptr': 1}
    refine x_as rfl rfl trivial rfl ?_  -- disk.go:46 assign 1
    refine xl_nil ?_
    refine x_ret ?_
    exact end2 rfl rfl rfl (.inl ⟨by unfold Fits8; omega, rfl, hw⟩)
  · -- no
    refine x_mv rfl rfl ⟨_, rfl, rfl⟩ rfl ?_  -- disk.go:45 move t4
    refine x_lt rfl rfl ⟨_, rfl, rfl⟩ rfl rfl ?_  -- disk.go:45 lss[3] t17 8
    refine x_pickF rfl rfl trivial rfl rfl rfl ?_  -- disk.go:45 pick t16 ? True : t18
    refine x_mv rfl rfl trivial rfl ?_  -- disk.go:45 move t19
    refine xl_split (d := 20) rfl (fun h2 => ?_) (fun h2 => ?_)
    · -- yes
      refine xl_no rfl rfl rfl rfl rfl rfl ?_  -- passed over: move t4
      refine xl_no rfl rfl rfl rfl rfl rfl ?_  -- passed over: gtr[3] t21 65536
      refine x_pickT rfl rfl trivial rfl rfl rfl ?_  -- disk.go:45 pick t20 ? True : t22
      refine xl_nil ?_
      refine x_cond_true rfl ?_
      refine x_seq ?_
      refine x_region rfl ?_
      refine x_as rfl rfl trivial rfl ?_  -- disk.go:46 assign {'nilptr': 1}
      refine x_as rfl rfl trivial rfl ?_  -- disk.go:46 assign 1
      refine xl_nil ?_
      refine x_ret ?_
      exact end2 rfl rfl rfl (.inl ⟨by unfold Fits8; omega, rfl, hw⟩)
    · -- no
      refine x_mv rfl rfl ⟨_, rfl, rfl⟩ rfl ?_  -- disk.go:45 move t4
      refine x_gt rfl rfl ⟨_, rfl, rfl⟩ rfl rfl ?_  -- disk.go:45 gtr[3] t21 65536
      refine x_pickF rfl rfl trivial rfl rfl rfl ?_  -- disk.go:45 pick t20 ? True : t22
      refine xl_nil ?_
      refine x_if rfl (fun h3 => ?_) (fun h3 => ?_)
      · -- yes
        refine x_seq ?_
        refine x_region rfl ?_
        refine x_as rfl rfl trivial rfl ?_  -- disk.go:46 assign {'nilptr': 1}
        refine x_as rfl rfl trivial rfl ?_  -- disk.go:46 assign 1
        refine xl_nil ?_
        refine x_ret ?_
        exact end2 rfl rfl rfl (.inl ⟨by unfold Fits8; omega, rfl, hw⟩)
      · -- no
        have hF : Fits8 l := by unfold Fits8; omega
        have hnl : l.length = 512 * n := by omega
        have hn8 : 8 ≤ n ∧ n ≤ 65536 := by omega
        obtain ⟨b, o, rfl⟩ := ((ka.of (by repeat (first | exact Suf.refl _ | apply Suf.cons))).at hw).nn (by omega)
        refine x_skip ?_
        refine x_seq ?_
        refine x_region rfl ?_
        refine x_mv rfl rfl trivial rfl ?_  -- disk.go:48 move t4
        refine x_call rfl rfl trivial cal_disk_over rfl (ct_disk_over (n := n) hw hn8) rfl (fun w v25 hv => ?_)  -- disk.go:48 call f46 coppice/disk.over(t24)
        obtain ⟨q, rfl, hw⟩ := hv
        obtain ⟨hok, ml, ms, sv, kl, ks, hl, hs, hw⟩ := dsk_open hw
        simp only [dparts, dcells, List.cons_append, List.nil_append, List.length_replicate] at hw
        refine x_as rfl rfl trivial rfl ?_  -- disk.go:48 assign t25
        refine xl_nil ?_
        refine x_seq ?_
        refine x_seq ?_
        refine x_region rfl ?_
        refine x_mv rfl rfl trivial rfl ?_  -- disk.go:49 move t4
        refine x_mv rfl rfl trivial rfl ?_  -- disk.go:49 move 0
        refine xl_nil ?_
        refine x_block ?_
        refine x_loop (fun m e w => ∃ (k : Nat) (kl : KV), k ≤ n ∧ m = n - k ∧ e = [(0, .slice (some ⟨b, o, none⟩) l.length cap), (4, .int .i64 n), (5, .pointer (some ⟨q, 0, none⟩)), (26, .int .i64 n), (27, .int .i64 k)] ∧ LastM kl (part l n k) ∧ Sat G (blk q (dcells n ml ms sv true (-1) 0 0) 86 :: mapI ml kl :: mapI ms ks :: row 89 513 sv 0 [] :: L) w)
          (m := n) (e₀ := [(0, .slice (some ⟨b, o, none⟩) l.length cap), (4, .int .i64 n), (5, .pointer (some ⟨q, 0, none⟩)), (26, .int .i64 n), (27, .int .i64 (0 : Nat))]) (by repeat (first | exact Sub.nil _ | refine Sub.cons rfl ?_))
          ⟨0, kl, Nat.zero_le _, rfl, rfl, by rw [part_zero]; exact hl, hw⟩ ?_
        rintro m e w ⟨k, kl, hk, rfl, rfl, hl, hw⟩
        simp only [dcells] at hw
        refine x_seq ?_
        refine x_region rfl ?_
        refine x_lt rfl rfl trivial rfl rfl ?_  -- disk.go:49 lss[3] t27 t26
        refine xl_nil ?_
        refine x_seq ?_
        refine x_if rfl (fun h4 => ?_) (fun h4 => ?_)
        · -- yes
          have hk' : k < n := by omega
          have hcl := chunk_length hnl hk'
          refine x_skip ?_
          refine x_seq ?_
          refine x_block ?_
          refine x_seq ?_
          refine x_region rfl ?_
          refine x_mv rfl rfl trivial rfl ?_  -- disk.go:49 move t27
          refine x_as rfl rfl trivial rfl ?_  -- disk.go:49 assign t29
          refine xl_nil ?_
          refine x_seq ?_
          refine x_region rfl ?_
          refine x_alloc rfl rfl trivial z_disk_block hw rfl (fun w b7 hw => ?_)  -- disk.go:50 alloc 78
          refine xl_nil ?_
          refine x_seq ?_
          refine x_draw [0, 1, 2, 3, 4, 5] mixed (by kernel_rfl) ?_  -- region 9
          replace hw := hw.drawn (w.drawn + 1)
          refine x_cutA rfl rfl trivial U_disk_block szs_uint8 (by decide) rfl rfl ?_  -- disk.go:51 slice[78] t7 [-:-:-]
          refine x_mv rfl rfl trivial rfl ?_  -- disk.go:51 move t0
          refine x_mv rfl rfl trivial rfl ?_  -- disk.go:51 move t6
          refine x_muli rfl rfl trivial rfl rfl (by omega) ?_  -- disk.go:51 mul[3] t32 512
          -- disk.go:51 slice[23] t31 [t33:-:-]
          refine x_cutL rfl rfl trivial U_sl_uint8 sz_uint8 rfl rfl ⟨by omega, by omega⟩ (by have := ((ka.of (by repeat (first | exact Suf.refl _ | apply Suf.cons))).at hw).cap; omega) ?_
          -- disk.go:51 copy(t30, t34)
          refine x_cp (cs := bys (chunk l k)) (l' := bys (chunk l k)) rfl rfl trivial U_sl_uint8 sz_uint8 rfl rfl hw (by repeat (first | with_reducible exact Pick.here | apply Pick.there)) (by
            have h := (((ka.of (by repeat (first | exact Suf.refl _ | apply Suf.cons))).at hw).rdd (512 * k)).take 512
            rw [← bys_take] at h
            rw [show ((k : Int) * 512).toNat * 1 = 512 * k by omega]
            exact h) (by rw [bys_length, hcl]; show 512 = min _ _; omega) (ones_bys _) (by rw [bys_length, hcl]; simp [rep_length]) (take_all hcl _ (by simp [rep_length])) (by kernel_rfl) (fun w hw => ?_)
          refine xl_nil ?_
          refine x_region rfl ?_
          refine x_mv rfl rfl trivial rfl ?_  -- disk.go:52 move t5
          refine x_mv rfl rfl trivial rfl ?_  -- disk.go:52 move t6
          refine x_ld rfl rfl trivial rfl (Loads.blkA many_disk_block hw (by repeat (first | with_reducible exact Pick.here | apply Pick.there)) (by rw [bys_length, hcl])) ?_  -- disk.go:52 load[78] t7
          refine x_call rfl rfl trivial cal_disk_Disk_keep rfl (ct_disk_Disk_keep (n := n) (i := k) (c := chunk l k) (hw.picks (As := [blk q _ _, mapI ml _]) (by repeat (first | exact Picks.nil | (apply Picks.cons; repeat (first | with_reducible exact Pick.here | apply Pick.there))))) hcl) rfl (fun w v39 hv => ?_)  -- disk.go:52 call f47 (*coppice/disk.Disk).keep(t36, t37, t38)
          obtain ⟨-, hw⟩ := hv
          simp only [List.cons_append, List.nil_append, List.append_eq] at hw
          refine xl_nil ?_
          refine x_region rfl ?_
          refine x_addi rfl rfl trivial rfl rfl (by omega) ?_  -- disk.go:49 add[3] t27 1
          refine x_mv rfl rfl trivial rfl ?_  -- disk.go:49 move t40
          refine xl_nil ?_
          refine ⟨n - (k + 1), by omega, [(0, _), (4, _), (5, _), (26, _), (27, .int .i64 (k + 1 : Nat))], (by repeat (first | exact Sub.nil _ | refine Sub.cons rfl ?_)), k + 1, kkeep kl k (chunk l k), by omega, rfl, rfl, ?_, ?_⟩
          · rw [part_succ l hk']; exact hl.keep (by rw [part_length]; exact hk') _
          · have h := hw.picks (As := [blk q _ _, mapI ml _, mapI ms _, row _ _ _ _ _]) (by repeat (first | exact Picks.nil | (apply Picks.cons; repeat (first | with_reducible exact Pick.here | apply Pick.there))))
            exact h.drop (.there (.there (.there (.there (Pick.here (A := blk b7 _ _))))))
        · -- no
          refine x_exit rfl ?_  -- exit 0
          refine x_seq ?_
          refine x_region rfl ?_
          refine x_mv rfl rfl trivial rfl ?_  -- disk.go:54 move t5
          refine x_as rfl rfl trivial rfl ?_  -- disk.go:54 assign t41
          refine x_as rfl rfl trivial rfl ?_  -- disk.go:54 assign 0
          refine xl_nil ?_
          refine x_ret ?_
          exact end2 rfl rfl rfl (by
  have hkk : k = n := by omega
  subst hkk
  rw [part_all] at hl
  refine .inr ⟨hF, q, rfl, dsk_shut (D := Dk.new (chunks l (l.length / 512))) (ml := ml) (ms := ms) (sv := sv) (kl := kl) (ks := ks) (Dk.Ok.new (by rw [chunks_length]; omega) (by rw [hn]; exact chunks_blk hnl)) (by rw [hn]; exact hl) hs (hw.of_eq ?_)⟩
  simp [dparts, dcells, Dk.new, chunks_length, hn])

end

/-! ### Image -/

theorem flat_set : ∀ (B : List Bys) (k : Nat) (c : Bys), (∀ x ∈ B, x.length = 512) → k < B.length → B.flatten.take (512 * k) ++ c ++ B.flatten.drop (512 * k + 512) = (B.set k c).flatten
  | [], _, _, _, h => by simp at h
  | x :: B, 0, c, hB, _ => by
    have := hB x (List.mem_cons_self ..)
    simp only [List.flatten_cons, Nat.mul_zero, List.take_zero, List.nil_append, Nat.zero_add, List.set_cons_zero]
    rw [List.drop_append, this, List.drop_eq_nil_of_le (by omega)]; simp
  | x :: B, k + 1, c, hB, hk => by
    have hx := hB x (List.mem_cons_self ..)
    simp only [List.flatten_cons, List.set_cons_succ]
    rw [← flat_set B k c (fun y hy => hB y (List.mem_cons_of_mem _ hy)) (by simpa using hk), List.take_append, List.drop_append, hx, List.take_of_length_le (by omega), List.drop_eq_nil_of_le (by omega)]
    rw [show 512 * (k + 1) - 512 = 512 * k by omega, show 512 * (k + 1) + 512 - 512 = 512 * k + 512 by omega]; simp
theorem flat_len512 : ∀ (B : List Bys), (∀ x ∈ B, x.length = 512) → B.flatten.length = 512 * B.length
  | [], _ => rfl
  | x :: B, h => by
    simp only [List.flatten_cons, List.length_append, List.length_cons, h x (List.mem_cons_self ..), flat_len512 B fun y hy => h y (List.mem_cons_of_mem _ hy)]; omega
theorem set_blk {B : List Bys} {k : Nat} {c : Bys} (h : ∀ x ∈ B, x.length = 512) (hc : c.length = 512) : ∀ x ∈ B.set k c, x.length = 512 := fun x hx => by
  rcases List.mem_or_eq_of_mem_set hx with hx | rfl
  · exact h x hx
  · exact hc
theorem rep_flat (n : Nat) : rep (n * 512) (.int .u8 0) = bys (List.replicate n zb).flatten := by
  induction n with
  | zero => rfl
  | succ n ih =>
    rw [List.replicate_succ, List.flatten_cons, bys_append, ← ih, bys_zb, show (n + 1) * 512 = 512 + n * 512 by omega]
    simp only [rep, List.replicate_append_replicate]

/-- those that did not come up yet -/
def yet (vis : List Int) (n : Nat) : List Nat := (List.range n).filter fun i : Nat => decide ((i : Int) ∉ vis)
theorem yet_lt {vis : List Int} {n k : Nat} (hk : k < n) (hn : (k : Int) ∉ vis) : (yet ((k : Int) :: vis) n).length < (yet vis n).length := by
  have gen : ∀ R : List Nat, (R.filter fun i : Nat => decide ((i : Int) ∉ (k : Int) :: vis)).length ≤ (R.filter fun i : Nat => decide ((i : Int) ∉ vis)).length ∧
      (k ∈ R → (R.filter fun i : Nat => decide ((i : Int) ∉ (k : Int) :: vis)).length < (R.filter fun i : Nat => decide ((i : Int) ∉ vis)).length) := by
    intro R
    induction R with
    | nil => simp
    | cons x R ih =>
      by_cases hx : x = k
      · subst hx
        rw [List.filter_cons_of_neg (by simp), List.filter_cons_of_pos (by simpa using hn)]
        exact ⟨by simp only [List.length_cons]; omega, fun _ => by simp only [List.length_cons]; omega⟩
      · by_cases hv : (x : Int) ∈ vis
        · rw [List.filter_cons_of_neg (by simp [hv]), List.filter_cons_of_neg (by simp [hv])]
          exact ⟨ih.1, fun h => ih.2 (by rcases List.mem_cons.1 h with h | h; (exact absurd h.symm hx); (exact h))⟩
        · rw [List.filter_cons_of_pos (by simp [hv]; omega), List.filter_cons_of_pos (by simp [hv])]
          exact ⟨by simp only [List.length_cons]; omega, fun h => by have := ih.2 (by rcases List.mem_cons.1 h with h | h; (exact absurd h.symm hx); (exact h)); simp only [List.length_cons]; omega⟩
  exact (gen _).2 (List.mem_range.2 hk)

section
variable {G : Gh} {L R : List Assn} {w : World} {p : Nat} {D : Dk}
theorem iter_map {it m : Nat} {kv : KV} {vis : List Int} (hw : Sat G (iter it m kv vis :: R) w) : Sat G (mapI m kv :: R) w := by
  obtain ⟨es, ck, sq, vs, hf, _, _, _, hw⟩ := iter_open hw
  exact mapI_shut hf hw.tail

/-- the bytes that last -/
def Dk.img (D : Dk) : Bys := D.lasts.flatten
theorem Dk.Ok.img (h : D.Ok) : D.img.length = 512 * D.lasts.length := flat_len512 _ h.blk

theorem look_some {kl : KV} {l : List Bys} (hl : LastM kl l) {k : Int} {v : Value} (hk : klook kl k = some v) : ∃ j : Nat, k = j ∧ j < l.length ∧ v = blkv (blkAt l j) := by
  rw [hl.look] at hk
  split at hk
  · rename_i h; exact ⟨k.toNat, by omega, by omega, by simpa using hk.symm⟩
  · cases hk

theorem ct_disk_Disk_Image (hw : Sat G (dsk p D :: L) w) : Calls Try.prog 20 #[.pointer (some ⟨p, 0, none⟩)] w (Ret fun v w' => Sat G (row 5 1 v (512 * D.lasts.length) (bys D.img) :: dsk p D :: L) w') := by
  obtain ⟨hok, ml, ms, sv, kl, ks, hl, hs, hw⟩ := dsk_open hw
  simp only [dparts, dcells, List.cons_append, List.nil_append] at hw
  have hlo := hok.lo
  have hhi := hok.hi
  refine calls_of_x (args := [_]) func_disk_Disk_Image rfl nt_disk_Disk_Image rfl ?_
  refine x_seq ?_
  refine x_region rfl ?_
  refine x_as rfl rfl trivial rfl ?_  -- disk.go:176 assign {'nilslice': 1}
  refine xl_nil ?_
  refine x_seq ?_
  refine x_region rfl ?_
  refine x_mv rfl rfl trivial rfl ?_  -- disk.go:177 move t0
  refine x_nc rfl rfl trivial rfl ?_  -- disk.go:177 nilCheck t6
  refine x_fld rfl rfl trivial fo_disk_Disk_0 rfl ?_  -- disk.go:177 fieldAddr[86] t7 .blocks(+0)
  refine x_ld rfl rfl trivial rfl (Loads.blk1 one_int hw (by repeat (first | with_reducible exact Pick.here | apply Pick.there)) rfl) ?_  -- disk.go:177 load[3] t8
  refine x_muli rfl rfl trivial rfl rfl (by omega) ?_  -- disk.go:177 mul[3] t9 512
  rw [show ((D.lasts.length : Int) * 512) = ((D.lasts.length * 512 : Nat) : Int) by omega]
  refine x_mks rfl rfl trivial U_sl_uint8 sz_uint8 by_uint8 z_uint8 rfl rfl ⟨by omega, by omega⟩ (by omega) (by omega) hw rfl (fun w b11 hw => ?_)  -- disk.go:177 makeSlice 23 10 10
  simp only [Int.toNat_natCast]
  simp only [Int.toNat_natCast] at hw
  rw [rep_flat] at hw
  refine x_as rfl rfl trivial rfl ?_  -- disk.go:177 assign t11
  refine xl_nil ?_
  refine x_seq ?_
  refine x_seq ?_
  refine x_region rfl ?_
  refine x_mv rfl rfl trivial rfl ?_  -- disk.go:178 move t0
  refine x_nc rfl rfl trivial rfl ?_  -- disk.go:178 nilCheck t12
  refine x_fld rfl rfl trivial fo_disk_Disk_1 rfl ?_  -- disk.go:178 fieldAddr[86] t13 .last(+1)
  refine x_ld rfl rfl trivial rfl (Loads.blk1 one_m_int_disk_block hw (by repeat (first | with_reducible exact Pick.here | apply Pick.there)) rfl) ?_  -- disk.go:178 load[83] t14
  refine x_rng rfl rfl trivial U_m_int_disk_block rfl hw (by repeat (first | with_reducible exact Pick.here | apply Pick.there)) rfl (fun w it hw => ?_)  -- disk.go:178 range 83 15
  refine xl_nil ?_
  refine x_block ?_
  refine x_loop (fun m e w => ∃ (vis : List Int) (B : List Bys), m = (yet vis D.lasts.length).length ∧ e = [(0, .pointer (some ⟨p, 0, none⟩)), (3, .slice (some ⟨b11, 0, none⟩) (D.lasts.length * 512) (D.lasts.length * 512)), (16, .pointer (some ⟨it, 0, none⟩))] ∧ (∀ x ∈ B, x.length = 512) ∧ B.length = D.lasts.length ∧ (∀ i : Nat, blkAt B i = if (i : Int) ∈ vis then blkAt D.lasts i else zb) ∧
  Sat G (blk b11 (bys B.flatten) 5 :: iter it ml kl vis :: blk p (dcells D.lasts.length ml ms sv D.on D.alarm D.wrote D.synced) 86 :: mapI ms ks :: row 89 513 sv D.ws.length (D.ws.flatMap wcells) :: L) w)
    (m := (yet [] D.lasts.length).length) (e₀ := [(0, .pointer (some ⟨p, 0, none⟩)), (3, .slice (some ⟨b11, 0, none⟩) (D.lasts.length * 512) (D.lasts.length * 512)), (16, .pointer (some ⟨it, 0, none⟩))]) (by repeat (first | exact Sub.nil _ | refine Sub.cons rfl ?_))
    ⟨[], List.replicate D.lasts.length zb, rfl, rfl, fun x hx => by rw [List.eq_of_mem_replicate hx]; exact zb_length, by simp, fun i => by
    unfold blkAt; rw [List.getD_eq_getElem?_getD, List.getElem?_replicate]; split <;> simp, (by
    have h := hw.picks (As := [blk b11 _ _, iter it _ _ _, blk p _ _, mapI ms _, row _ _ _ _ _]) (by repeat (first | exact Picks.nil | (apply Picks.cons; repeat (first | with_reducible exact Pick.here | apply Pick.there))))
    exact h)⟩ ?_
  rintro m e w ⟨vis, B, rfl, rfl, hB, hBl, hBv, hw⟩
  simp only [dcells] at hw
  have hfl := flat_len512 B hB
  refine x_seq ?_
  refine x_region rfl ?_
  refine x_nx rfl rfl trivial rfl hw (by repeat (first | with_reducible exact Pick.here | apply Pick.there)) rfl (fun w hall hw => ?_) (fun w k v hk hnew hw => ?_)  -- disk.go:178 next 16 false
  · -- over
    refine x_ext rfl rfl trivial rfl rfl ?_  -- disk.go:178 extract t17 .0
    refine xl_nil ?_
    refine x_seq ?_
    refine x_cond_false rfl ?_
    refine x_exit rfl ?_  -- exit 0
    refine x_seq ?_
    refine x_region rfl ?_
    refine x_mv rfl rfl trivial rfl ?_  -- disk.go:181 move t3
    refine x_as rfl rfl trivial rfl ?_  -- disk.go:181 assign t28
    refine xl_nil ?_
    refine x_ret ?_
    exact end1 rfl rfl (by
  have hBe : B = D.lasts := by
    apply List.ext_getElem hBl
    intro i h1 h2
    have h3 := hBv i
    have hb1 : blkAt B i = B[i] := by simp [blkAt, h1]
    have hb2 : blkAt D.lasts i = D.lasts[i] := by simp [blkAt, h2]
    rw [← hb1, ← hb2, h3]
    split
    · rfl
    · rename_i hni
      by_cases hz : blkAt D.lasts i = zb
      · exact hz.symm
      · refine absurd (hall i (blkv (blkAt D.lasts i)) ?_) hni
        rw [hl.look, if_pos ⟨by omega, by omega, by simpa using hz⟩]; rfl
  have h := iter_map (hw.pick (A := iter it _ _ _) (by repeat (first | with_reducible exact Pick.here | apply Pick.there)))
  have h := h.picks (As := [blk p _ _, mapI ml _, mapI ms _, row _ _ _ _ _, blk b11 _ _]) (by repeat (first | exact Picks.nil | (apply Picks.cons; repeat (first | with_reducible exact Pick.here | apply Pick.there))))
  have h := dsk_shut hok hl hs h
  have h := h.pick (A := blk b11 _ _) (by repeat (first | with_reducible exact Pick.here | apply Pick.there))
  have h := row_full (z := 1) (m := D.lasts.length * 512) h (by rw [bys_length, hfl]; omega) (by simp only [maxLen]; omega)
  rw [hBe, Nat.mul_comm] at h
  rw [Nat.mul_comm]
  exact h)
  · -- a key comes up
    obtain ⟨j, rfl, hj, rfl⟩ := look_some hl hk
    have hbl := blkAt_length hok j
    refine x_ext rfl rfl trivial rfl rfl ?_  -- disk.go:178 extract t17 .0
    refine xl_nil ?_
    refine x_seq ?_
    refine x_cond_true rfl ?_
    refine x_skip ?_
    refine x_block ?_
    refine x_seq ?_
    refine x_region rfl ?_
    refine x_ent rfl rfl trivial rfl hw (by repeat (first | with_reducible exact Pick.here | apply Pick.there)) hk ?_  -- disk.go:178 entry 16
    refine x_ext rfl rfl trivial rfl rfl ?_  -- disk.go:178 extract t19 .0
    refine x_ext rfl rfl trivial rfl rfl ?_  -- disk.go:178 extract t19 .1
    refine x_alloc rfl rfl trivial z_disk_block hw rfl (fun w b5 hw => ?_)  -- disk.go:178 alloc 78
    refine x_as rfl rfl trivial rfl ?_  -- disk.go:178 assign t20
    -- disk.go:178 store[78] t5 := t21
    refine x_stN (cs := bys (blkAt D.lasts j)) (l' := bys (blkAt D.lasts j)) rfl trivial rfl rfl many_disk_block (by rw [bys_length, hbl]) (ones_bys _) hw (by repeat (first | with_reducible exact Pick.here | apply Pick.there)) (by rw [rep_length]; decide) (by rw [List.drop_eq_nil_of_le (by rw [rep_length]; decide)]; simp) rfl (fun w hw => ?_)
    refine xl_nil ?_
    refine x_draw [0, 1, 2, 3, 4, 5] mixed (by kernel_rfl) ?_  -- region 5
    replace hw := hw.drawn (w.drawn + 1)
    refine x_mv rfl rfl trivial rfl ?_  -- disk.go:179 move t3
    refine x_mv rfl rfl trivial rfl ?_  -- disk.go:179 move t4
    refine x_muli rfl rfl trivial rfl rfl (by omega) ?_  -- disk.go:179 mul[3] t23 512
    -- disk.go:179 slice[23] t22 [t24:-:-]
    refine x_cutL rfl rfl trivial U_sl_uint8 sz_uint8 rfl rfl ⟨by omega, by omega⟩ (by omega) ?_
    refine x_cutA rfl rfl trivial U_disk_block szs_uint8 (by decide) rfl rfl ?_  -- disk.go:179 slice[78] t5 [-:-:-]
    -- disk.go:179 copy(t25, t26)
    refine x_cp (cs := bys (blkAt D.lasts j)) (l' := bys (B.set j (blkAt D.lasts j)).flatten) rfl rfl trivial U_sl_uint8 sz_uint8 rfl rfl hw (by repeat (first | with_reducible exact Pick.here | apply Pick.there)) (Rd.blk0 hw (by repeat (first | with_reducible exact Pick.here | apply Pick.there))) (by rw [bys_length, hbl]; show 512 = min _ _; omega) (ones_bys _) (by rw [bys_length, bys_length, hbl, hfl]; omega) (by
        rw [bys_length, hbl, show 0 + ((j : Int) * 512).toNat * 1 = 512 * j by omega, ← bys_take, ← bys_drop, ← bys_append, ← bys_append, flat_set B j _ hB (by omega)]) (by kernel_rfl) (fun w hw => ?_)
    refine xl_nil ?_
    refine ⟨_, yet_lt hj hnew, [(0, _), (3, _), (16, _)], (by repeat (first | exact Sub.nil _ | refine Sub.cons rfl ?_)), (j : Int) :: vis, B.set j (blkAt D.lasts j), rfl, rfl, set_blk hB hbl, by rw [List.length_set]; exact hBl, fun i => ?_, ?_⟩
    · rw [blkAt_set (by omega), hBv]
      by_cases hi : i = j
      · subst hi; simp
      · rw [if_neg hi]
        have : ((i : Int) ∈ (j : Int) :: vis) ↔ (i : Int) ∈ vis := by simp; omega
        simp only [this]
    · have h := hw.picks (As := [blk b11 _ _, iter it _ _ _, blk p _ _, mapI ms _, row _ _ _ _ _]) (by repeat (first | exact Picks.nil | (apply Picks.cons; repeat (first | with_reducible exact Pick.here | apply Pick.there))))
      exact h.drop (.there (.there (.there (.there (.there (Pick.here (A := blk b5 _ _)))))))

end
end Go.Proofs.Ytekilljcoplacaa.X
