/- DiskFresh, walked. -/
import Derived.Test.YtekilljcoplacaaXApart
namespace Go.Proofs.Ytekilljcoplacaa.X
set_option linter.unusedVariables false
set_option linter.unusedSimpArgs false
set_option maxRecDepth 20000

section
variable {P : Program} {n : Nat} {ops : Array Oper} {dr : Bool} {done r : List Nat} {K : Env → World → Prop} {e : Env} {w : World} {i d : Nat} {t : TypeId} {p : String} {af : Array Edge} {g : Option (Nat × Bool)}
variable {G : Gh} {L R : List Assn} {s T : TypeId}

/-- A slice literal. -/
theorem x_bsN {c : TypeId} {z m : Nat} {zc : Array Value} {xs : Array (Nat × Operand)} {vs cs : List Value} (ho : ops[i]? = some ⟨some d, .buildSlice s m xs, t, p, af, g⟩) (hd : Nat.blt d n = true) (hg : Gd ops e g) (hs : P.underlying s = some (.slice c)) (hzc : (P.info? c).map (·.size) = some z) (hz0 : zeroOf P c = some zc) (hz : 0 < m * z ∧ m * z ≤ 16777216)
    (hx : evs e (xs.toList.map (·.2)) = some vs) (hf : Instr.fill (fun i => some (i * z, z)) ((Array.range (m * z)).map (zc[· % zc.size]!)) ((xs.toList.map (·.1)).zip vs) = some cs.toArray) (hw : Sat G L w) (hpd : pend P ops dr done i = [])
    (h : ∀ w' b, Sat G (blk b cs c :: L) w' → XL P n ops dr (i :: done) r K ((d, .slice (some ⟨b, 0, none⟩) m m) :: e) w') : XL P n ops dr done (i :: r) K e w := by
  obtain ⟨hk, hm⟩ := evs_mem hx
  refine xl_eff ho (by simpa [dstOk] using hd) hg (ρ := rh e) (by intro z hz; exact hk z (by simpa [Op.operands] using hz)) rfl (v := .slice (some ⟨w.heap.size, 0, none⟩) m m) (w' := { w with heap := w.heap.push (.cells cs.toArray c (0, 0)) }) ?_ (noPend hpd) (h _ _ (hw.push _))
  have e1 : (xs.map fun (j, z) => (j, rh e z)) = ((xs.toList.map (·.1)).zip vs).toArray := by
    apply Array.ext'
    rw [← hm]
    simp only [Array.toList_map]
    generalize xs.toList = q
    induction q with
    | nil => rfl
    | cons x q ih => obtain ⟨a, b⟩ := x; simp only [List.map_cons, List.zip_cons_cons, ih]
  cases hi : P.info? c with
  | none => simp [hi] at hzc
  | some inf =>
    have hsz : inf.size = z := by simpa [hi] using hzc
    cases hzz : inf.zero with
    | none => simp [zeroOf, hi, hzz] at hz0
    | some zv =>
      have hzs : zv.cells = zc := by simpa [zeroOf, hi, hzz] using hz0
      have hnz : ¬ m * z = 0 := by omega
      have hle : ¬ 16777216 < m * z := by omega
      simp only [execOp, e1]
      simp [Instr.buildSlice, run_underlying hs, sizeOf, typeInfo, hi, hsz, zeroValue, hzz, hnz, hle, hzs, hf, newRow]
end

theorem rw0_snoc (T : TypeId) (v : Value) (c : List Value) : ∀ X : List (Value × List Value), rw0 T (X ++ [(v, c)]) = rw0 T X ++ [row T 1 v c.length c]
  | [] => rfl
  | (u, d) :: X => by simp only [List.cons_append, rw0, rw0_snoc T v c X]

section
variable {G : Gh} {L R : List Assn} {w : World} {p q : Nat} {D : Dk}

/-- a row more -/
theorem Sat.rw0_more {T : TypeId} {v : Value} {c : List Value} {X : List (Value × List Value)} {n : Nat} (hn : c.length = n) (h : Sat G (both (rw0 T X) :: row T 1 v n c :: R) w) : Sat G (both (rw0 T (X ++ [(v, c)])) :: R) w := by
  subst hn; rw [rw0_snoc]; exact h.both_snoc

/-- The document's disk as it is begun. -/
theorem rnew_rdk {s : Value} (hok : D.Ok) (h : D.ws = [] ∧ D.on = true ∧ D.alarm = -1 ∧ D.wrote = 0 ∧ D.synced = 0) (hw : Sat G (rnew q s :: row 5 1 s D.img.length (bys D.img) :: R) w) : Sat G (rdk q D :: R) w := by
  obtain ⟨h1, h2, h3, h4, h5⟩ := h
  refine rdk_shut (s := s) (wv := .slice none 0 0) (ss := []) hok (by rw [h1]; rfl) ?_
  have hw := row_nil (Sat.both_in (M := []) hw) 92 2
  have hw := hw.bring (As := [rnew q s, row 5 1 s _ _]) (by repeat (first | exact Bring.nil | (apply Bring.cons; repeat (first | with_reducible exact Pick.here | apply Pick.there))))
  refine hw.of_eq ?_
  simp [rparts, rcells, rnew, h1, h2, h3, h4, h5, wcs, wrows, hok.img]

/-- What holds between two calls. -/
structure FInv (k : Nat) (D : Dk) (X Y : List (Value × List Value)) : Prop where
  wrote : D.wrote ≤ k
  synced : D.synced ≤ k
  xl : X.length ≤ 2 * k
  yl : Y.length ≤ 2 * k
  xb : ∀ x ∈ X, x.2.length ≤ 1000000000
  yb : ∀ x ∈ Y, x.2.length ≤ 1000000000
theorem FInv.step {k : Nat} {D : Dk} {X Y : List (Value × List Value)} (h : FInv k D X Y) (o : OpV) : FInv (k + 1) (stepD D o) X Y := by
  have h1 := stepD_cnt D o
  have h2 := h.wrote; have h3 := h.synced; have h4 := h.xl; have h5 := h.yl
  exact ⟨by omega, by omega, by omega, by omega, h.xb, h.yb⟩
theorem FInv.moreX {k : Nat} {D : Dk} {X Y : List (Value × List Value)} (h : FInv k D X Y) {a b : Value × List Value} (ha : a.2.length ≤ 1000000000) (hb : b.2.length ≤ 1000000000) : FInv (k + 1) D (X ++ [a] ++ [b]) Y := by
  have h2 := h.wrote; have h3 := h.synced; have h4 := h.xl; have h5 := h.yl
  refine ⟨by omega, by omega, by simp only [List.length_append, List.length_cons, List.length_nil]; omega, by omega, fun x hx => ?_, h.yb⟩
  simp only [List.mem_append, List.mem_singleton] at hx
  rcases hx with (hx | rfl) | rfl
  · exact h.xb x hx
  · exact ha
  · exact hb
theorem FInv.moreY {k : Nat} {D : Dk} {X Y : List (Value × List Value)} (h : FInv k D X Y) {a b : Value × List Value} (ha : a.2.length ≤ 1000000000) (hb : b.2.length ≤ 1000000000) : FInv (k + 1) D X (Y ++ [a] ++ [b]) := by
  have h2 := h.wrote; have h3 := h.synced; have h4 := h.xl; have h5 := h.yl
  refine ⟨by omega, by omega, by omega, by simp only [List.length_append, List.length_cons, List.length_nil]; omega, h.xb, fun x hx => ?_⟩
  simp only [List.mem_append, List.mem_singleton] at hx
  rcases hx with (hx | rfl) | rfl
  · exact h.yb x hx
  · exact ha
  · exact hb
theorem ints_len (l : List Int) : (ints l).length = l.length := by simp [ints]

theorem ct_law06_DiskFresh_nil {n : Int} {sv v : Value} {l : Bys} {os : List OpV} (hw : Sat G L w) (ka : Knows L (SlB sv l)) (hll : l.length ≤ 140737488351232) (ko : Script L v os) (hD : startD n l = none) :
    Calls Try.prog 14 #[.agg #[.int .i64 n, sv], v] w (Ret fun r w' => r = .bool true ∧ Sat G L w') := by
  obtain ⟨a, cap, rfl, hcap, hasp⟩ := (ko.sl.at hw).form
  refine calls_of_x (args := [_, _]) func_law06_DiskFresh rfl nt_law06_DiskFresh rfl ?_
  refine x_seq ?_
  refine x_region rfl ?_
  refine x_box rfl rfl trivial rfl rfl hw rfl (fun w b2 hw => ?_)  -- law.go:368 box[37] t0
  refine x_as rfl rfl trivial rfl ?_  -- law.go:368 assign False
  refine xl_nil ?_
  refine x_seq ?_
  refine x_region rfl ?_
  refine x_mv rfl rfl trivial rfl ?_  -- law.go:369 move t1
  refine x_mv rfl rfl trivial rfl ?_  -- law.go:369 move t1
  refine x_len rfl rfl trivial rfl U_sl_coppicelaw06_Op rfl ?_  -- law.go:369 len(t21)
  -- law.go:369 min(t22, 60)
  refine x_min2 rfl rfl trivial rfl rfl ?_
  -- law.go:369 slice[38] t20 [-:t23:-]
  refine x_cutH rfl rfl trivial U_sl_coppicelaw06_Op szs_coppicelaw06_Op rfl hasp rfl ⟨by omega, by omega⟩ ?_
  refine x_as rfl rfl trivial rfl ?_  -- law.go:369 assign t24
  refine xl_nil ?_
  refine x_seq ?_
  refine x_region rfl ?_
  refine x_ld rfl rfl trivial rfl (Loads.blkA many_coppicelaw06_Start hw (by repeat (first | with_reducible exact Pick.here | apply Pick.there)) (by simp)) ?_  -- law.go:370 load[37] t2
  refine x_call rfl rfl trivial cal_law06_makes rfl (ct_law06_makes_nil (n := n) (l := l) hw (ka.of (by repeat (first | exact Suf.refl _ | apply Suf.cons))) hll hD) rfl (fun w v27 hv => ?_)  -- law.go:370 call f28 coppice/coppicelaw06.makes(t26)
  obtain ⟨rfl, hw⟩ := hv
  refine x_mv rfl rfl trivial rfl ?_  -- law.go:370 move t27
  refine x_ext rfl rfl trivial rfl rfl ?_  -- law.go:370 extract t25 .0
  refine x_ext rfl rfl trivial rfl rfl ?_  -- law.go:370 extract t25 .1
  refine x_ext rfl rfl trivial rfl rfl ?_  -- law.go:370 extract t25 .2
  refine x_as rfl rfl trivial rfl ?_  -- law.go:370 assign t28
  refine x_as rfl rfl trivial rfl ?_  -- law.go:370 assign t29
  refine x_as rfl rfl trivial rfl ?_  -- law.go:370 assign t30
  refine xl_nil ?_
  refine x_seq ?_
  refine x_seq ?_
  refine x_region rfl ?_
  refine x_mv rfl rfl trivial rfl ?_  -- law.go:371 move t7
  -- law.go:371 unOp "not" 4 31
  refine x_not rfl rfl trivial rfl ?_
  refine x_mv rfl rfl trivial rfl ?_  -- law.go:371 move t32
  refine x_call rfl rfl ⟨_, rfl, rfl⟩ cal_law06_works rfl (ct_law06_works hw) rfl (fun w v34 hv => ?_)  -- law.go:371 call f18 coppice/coppicelaw06.works()
  obtain ⟨rfl, hw⟩ := hv
  -- law.go:371 unOp "not" 4 34
  refine x_not rfl rfl ⟨_, rfl, rfl⟩ rfl ?_
  refine x_pickF rfl rfl trivial rfl rfl rfl ?_  -- law.go:371 pick t33 ? True : t35
  refine xl_nil ?_
  refine x_cond_false rfl ?_
  refine x_skip ?_
  refine x_seq ?_
  refine x_seq ?_
  refine x_region rfl ?_
  refine x_mv rfl rfl trivial rfl ?_  -- law.go:374 move t6
  refine x_eqnil rfl rfl trivial rfl U_p_coppiceref06_Disk rfl ?_  -- law.go:374 eql[29] t37 {'nilptr': 1}
  refine x_mv rfl rfl trivial rfl ?_  -- law.go:374 move t38
  refine xl_no rfl rfl rfl rfl rfl rfl ?_  -- passed over: move t6
  refine xl_no rfl rfl rfl rfl rfl rfl ?_  -- passed over: nilCheck t40
  refine xl_no rfl rfl rfl rfl rfl rfl ?_  -- passed over: fieldAddr[56] t41 .Lasts(+0)
  refine xl_no rfl rfl rfl rfl rfl rfl ?_  -- passed over: load[23] t42
  refine xl_no rfl rfl rfl rfl rfl rfl ?_  -- passed over: len(t43)
  refine xl_no rfl rfl rfl rfl rfl rfl ?_  -- passed over: gtr[3] t44 262144
  refine x_pickT rfl rfl trivial rfl rfl rfl ?_  -- law.go:374 pick t39 ? True : t45
  refine xl_nil ?_
  refine x_cond_true rfl ?_
  refine x_seq ?_
  refine x_region rfl ?_
  refine x_as rfl rfl trivial rfl ?_  -- law.go:375 assign True
  refine xl_nil ?_
  refine x_ret ?_
  exact end1 rfl rfl ⟨rfl, (by repeat (first | exact hw | replace hw := hw.tail))⟩

theorem ct_law06_DiskFresh_go {n : Int} {sv v : Value} {l : Bys} {os : List OpV} (hw : Sat G L w) (ka : Knows L (SlB sv l)) (hll : l.length ≤ 140737488351232) (ko : Script L v os) (hD : startD n l = some D) :
    Calls Try.prog 14 #[.agg #[.int .i64 n, sv], v] w (Ret fun r w' => r = .bool true ∧ Sat G L w') := by
  obtain ⟨a, cap, rfl, hcap, hasp⟩ := (ko.sl.at hw).form
  have hfresh := startD_fresh hD
  refine calls_of_x (args := [_, _]) func_law06_DiskFresh rfl nt_law06_DiskFresh rfl ?_
  refine x_seq ?_
  refine x_region rfl ?_
  refine x_box rfl rfl trivial rfl rfl hw rfl (fun w b2 hw => ?_)  -- law.go:368 box[37] t0
  refine x_as rfl rfl trivial rfl ?_  -- law.go:368 assign False
  refine xl_nil ?_
  refine x_seq ?_
  refine x_region rfl ?_
  refine x_mv rfl rfl trivial rfl ?_  -- law.go:369 move t1
  refine x_mv rfl rfl trivial rfl ?_  -- law.go:369 move t1
  refine x_len rfl rfl trivial rfl U_sl_coppicelaw06_Op rfl ?_  -- law.go:369 len(t21)
  -- law.go:369 min(t22, 60)
  refine x_min2 rfl rfl trivial rfl rfl ?_
  -- law.go:369 slice[38] t20 [-:t23:-]
  refine x_cutH rfl rfl trivial U_sl_coppicelaw06_Op szs_coppicelaw06_Op rfl hasp rfl ⟨by omega, by omega⟩ ?_
  have hsl : Knows L (SlO (.slice a (os.take 60).length cap) (os.take 60)) := ko.sl.mono fun w h => h.take 60
  have hok : ∀ o ∈ os.take 60, o.Ok L := fun o h => ko.ok o (List.mem_of_mem_take h)
  have hlen : (os.take 60).length ≤ 60 := by simp; omega
  rw [show (min (os.length : Int) 60).toNat = (os.take 60).length by simp; omega]
  generalize os.take 60 = os' at hsl hok hlen ⊢
  refine x_as rfl rfl trivial rfl ?_  -- law.go:369 assign t24
  refine xl_nil ?_
  refine x_seq ?_
  refine x_region rfl ?_
  refine x_ld rfl rfl trivial rfl (Loads.blkA many_coppicelaw06_Start hw (by repeat (first | with_reducible exact Pick.here | apply Pick.there)) (by simp)) ?_  -- law.go:370 load[37] t2
  refine x_call rfl rfl trivial cal_law06_makes rfl (ct_law06_makes_go (n := n) (l := l) hw (ka.of (by repeat (first | exact Suf.refl _ | apply Suf.cons))) hll hD) rfl (fun w v27 hv => ?_)  -- law.go:370 call f28 coppice/coppicelaw06.makes(t26)
  obtain ⟨q1, q2, s2, rfl, hw⟩ := hv
  have hDok := (dsk_open hw).1
  have hil := hDok.img
  have hhi := hDok.hi
  refine x_mv rfl rfl trivial rfl ?_  -- law.go:370 move t27
  refine x_ext rfl rfl trivial rfl rfl ?_  -- law.go:370 extract t25 .0
  refine x_ext rfl rfl trivial rfl rfl ?_  -- law.go:370 extract t25 .1
  refine x_ext rfl rfl trivial rfl rfl ?_  -- law.go:370 extract t25 .2
  refine x_as rfl rfl trivial rfl ?_  -- law.go:370 assign t28
  refine x_as rfl rfl trivial rfl ?_  -- law.go:370 assign t29
  refine x_as rfl rfl trivial rfl ?_  -- law.go:370 assign t30
  refine xl_nil ?_
  refine x_seq ?_
  refine x_seq ?_
  refine x_region rfl ?_
  refine x_mv rfl rfl trivial rfl ?_  -- law.go:371 move t7
  -- law.go:371 unOp "not" 4 31
  refine x_not rfl rfl trivial rfl ?_
  refine x_mv rfl rfl trivial rfl ?_  -- law.go:371 move t32
  refine x_call rfl rfl ⟨_, rfl, rfl⟩ cal_law06_works rfl (ct_law06_works hw) rfl (fun w v34 hv => ?_)  -- law.go:371 call f18 coppice/coppicelaw06.works()
  obtain ⟨rfl, hw⟩ := hv
  have hw := hw.bring (As := [rnew q2 s2, row 5 1 s2 _ _, dsk q1 D, blk b2 _ _]) (by repeat (first | exact Bring.nil | (apply Bring.cons; repeat (first | with_reducible exact Pick.here | apply Pick.there))))
  have hw := rnew_rdk hDok hfresh hw
  have hw := (hw.pick (A := blk b2 _ _) (by repeat (first | with_reducible exact Pick.here | apply Pick.there))).tail
  obtain ⟨s, wv, ss, hw, hss⟩ := rdk_lasts hw
  obtain ⟨as', cs', rfl⟩ := row_form (hw.pick (A := row 5 1 s _ _) (by repeat (first | with_reducible exact Pick.here | apply Pick.there)))
  -- law.go:371 unOp "not" 4 34
  refine x_not rfl rfl ⟨_, rfl, rfl⟩ rfl ?_
  refine x_pickF rfl rfl trivial rfl rfl rfl ?_  -- law.go:371 pick t33 ? True : t35
  refine xl_nil ?_
  refine x_cond_false rfl ?_
  refine x_skip ?_
  refine x_seq ?_
  refine x_seq ?_
  refine x_region rfl ?_
  refine x_mv rfl rfl trivial rfl ?_  -- law.go:374 move t6
  refine x_eqnil rfl rfl trivial rfl U_p_coppiceref06_Disk rfl ?_  -- law.go:374 eql[29] t37 {'nilptr': 1}
  refine x_mv rfl rfl trivial rfl ?_  -- law.go:374 move t38
  refine x_mv rfl rfl ⟨_, rfl, rfl⟩ rfl ?_  -- law.go:374 move t6
  refine x_nc rfl rfl ⟨_, rfl, rfl⟩ rfl ?_  -- law.go:374 nilCheck t40
  refine x_fld rfl rfl ⟨_, rfl, rfl⟩ fo_coppiceref06_Disk_0 rfl ?_  -- law.go:374 fieldAddr[56] t41 .Lasts(+0)
  refine x_ld rfl rfl ⟨_, rfl, rfl⟩ rfl (Loads.blk1 one_sl_uint8 hw (by repeat (first | with_reducible exact Pick.here | apply Pick.there)) rfl) ?_  -- law.go:374 load[23] t42
  refine x_len rfl rfl ⟨_, rfl, rfl⟩ rfl U_sl_uint8 rfl ?_  -- law.go:374 len(t43)
  have hw := rdk_shut (D := D) hDok hss hw
  refine x_gt rfl rfl ⟨_, rfl, rfl⟩ rfl rfl ?_  -- law.go:374 gtr[3] t44 262144
  refine x_pickF rfl rfl trivial rfl rfl rfl ?_  -- law.go:374 pick t39 ? True : t45
  refine xl_nil ?_
  refine x_if rfl (fun h4 => ?_) (fun h4 => ?_)
  · -- yes
    refine x_seq ?_
    refine x_region rfl ?_
    refine x_as rfl rfl trivial rfl ?_  -- law.go:375 assign True
    refine xl_nil ?_
    refine x_ret ?_
    exact end1 rfl rfl ⟨rfl, (by repeat (first | exact hw | replace hw := hw.tail))⟩
  · -- no
    refine x_skip ?_
    refine x_seq ?_
    refine x_region rfl ?_
    refine x_as rfl rfl trivial rfl ?_  -- law.go:377 assign {'nilslice': 1}
    refine xl_nil ?_
    refine x_seq ?_
    refine x_region rfl ?_
    refine x_as rfl rfl trivial rfl ?_  -- law.go:378 assign {'nilslice': 1}
    refine xl_nil ?_
    refine x_seq ?_
    refine x_seq ?_
    refine x_region rfl ?_
    refine x_as rfl rfl trivial rfl ?_  -- law.go:379 assign 0
    refine xl_nil ?_
    refine x_block ?_
    have hw := row_nil (Sat.both_in (M := rw0 5 []) (row_nil (Sat.both_in (M := rw0 3 []) (hw.pick (A := dsk q1 D) (by repeat (first | with_reducible exact Pick.here | apply Pick.there)))) 52 1)) 23 1
    have hF : FInv 0 D [] [] := ⟨by omega, by omega, by simp, by simp, by simp, by simp⟩
    refine x_loop (fun m e w => ∃ (k : Nat) (D : Dk) (X Y : List (Value × List Value)) (u u' : Value), k ≤ os'.length ∧ m = os'.length - k ∧ e = [(1, .slice a os'.length cap), (5, .pointer (some ⟨q1, 0, none⟩)), (6, .pointer (some ⟨q2, 0, none⟩)), (8, u), (9, u'), (10, .int .i64 k)] ∧ FInv k D X Y ∧ Sat G (row 23 1 u X.length (X.map Prod.fst) :: both (rw0 5 X) :: row 52 1 u' Y.length (Y.map Prod.fst) :: both (rw0 3 Y) :: dsk q1 D :: rdk q2 D :: L) w)
      (m := os'.length) (e₀ := [(1, .slice a os'.length cap), (5, .pointer (some ⟨q1, 0, none⟩)), (6, .pointer (some ⟨q2, 0, none⟩)), (8, .slice none 0 0), (9, .slice none 0 0), (10, .int .i64 (0 : Nat))]) (by repeat (first | exact Sub.nil _ | refine Sub.cons rfl ?_))
      ⟨0, D, [], [], _, _, Nat.zero_le _, rfl, rfl, hF, hw⟩ ?_
    rintro m e w ⟨k, D, X, Y, u, u', hk, rfl, rfl, hF, hw⟩
    clear hfresh hDok hil hhi hss
    have hDok := (dsk_open (hw.pick (A := dsk q1 D) (by repeat (first | with_reducible exact Pick.here | apply Pick.there)))).1
    have hil := hDok.img
    have hhi := hDok.hi
    have hwn := hDok.cnt
    have hFw := hF.wrote
    have hFs := hF.synced
    have hFx := hF.xl
    have hFy := hF.yl
    refine x_seq ?_
    refine x_seq ?_
    refine x_region rfl ?_
    refine x_mv rfl rfl trivial rfl ?_  -- law.go:379 move t10
    refine x_mv rfl rfl trivial rfl ?_  -- law.go:379 move t1
    refine x_len rfl rfl trivial rfl U_sl_coppicelaw06_Op rfl ?_  -- law.go:379 len(t48)
    refine x_lt rfl rfl trivial rfl rfl ?_  -- law.go:379 lss[3] t47 t49
    refine xl_nil ?_
    refine x_if rfl (fun h5 => ?_) (fun h5 => ?_)
    · -- yes
      have hk' : k < os'.length := by omega
      obtain ⟨o, ho⟩ : ∃ o, os'[k]? = some o := ⟨_, List.getElem?_eq_getElem hk'⟩
      have hoo := hok o (List.mem_of_getElem? ho)
      have hob := hoo.b
      have hbl0 := hoo.bl0
      have hoz : Knows L (fun _ => Ones o.cells) := fun g w h => OpV.ones hoo h
      obtain ⟨b, f, rfl⟩ := ((hsl.of (by repeat (first | exact Suf.refl _ | apply Suf.cons))).at hw).nn (by omega)
      refine x_skip ?_
      refine x_seq ?_
      refine x_block ?_
      refine x_seq ?_
      refine x_region rfl ?_
      refine x_mv rfl rfl trivial rfl ?_  -- law.go:380 move t1
      refine x_mv rfl rfl trivial rfl ?_  -- law.go:380 move t10
      refine x_idx rfl rfl trivial U_sl_coppicelaw06_Op sz_coppicelaw06_Op rfl rfl ⟨by omega, by omega⟩ ?_  -- law.go:380 indexAddr[38] t53 [t54] 
      refine x_ld rfl rfl trivial rfl (Loads.many many_coppicelaw06_Op rfl (((hsl.of (by repeat (first | exact Suf.refl _ | apply Suf.cons))).at hw).at ho)) ?_  -- law.go:380 load[43] t55
      refine x_alloc rfl rfl trivial z_coppicelaw06_Op hw rfl (fun w b11 hw => ?_)  -- law.go:380 alloc 43
      -- law.go:380 store[43] t11 := t56
      refine x_stN (cs := o.cells) (l' := o.cells) rfl trivial rfl rfl many_coppicelaw06_Op rfl ((hoz.of (by repeat (first | exact Suf.refl _ | apply Suf.cons))).at hw) hw (by repeat (first | with_reducible exact Pick.here | apply Pick.there)) (by simp) rfl rfl (fun w hw => ?_)
      simp only [OpV.cells] at hw
      refine xl_nil ?_
      refine x_seq ?_
      refine x_region rfl ?_
      refine x_fld rfl rfl trivial fo_coppicelaw06_Op_2 rfl ?_  -- law.go:381 fieldAddr[43] t11 .B(+2)
      refine x_ld rfl rfl trivial rfl (Loads.blk1 one_sl_uint8 hw (by repeat (first | with_reducible exact Pick.here | apply Pick.there)) rfl) ?_  -- law.go:381 load[23] t57
      refine x_call rfl rfl trivial cal_ref00_CopyBytes rfl (ct_ref00_CopyBytes (l := o.bl) hw (hob.of (by repeat (first | exact Suf.refl _ | apply Suf.cons))) (by omega)) rfl (fun w v59 hv => ?_)  -- law.go:381 call f15 coppice/coppiceref00.CopyBytes(t58)
      have hw : Sat G (row 5 1 v59 o.bl.length (bys o.bl) :: _) w := hv
      obtain ⟨ax, cx, rfl⟩ := row_form hw
      refine x_as rfl rfl trivial rfl ?_  -- law.go:381 assign t59
      refine xl_nil ?_
      refine x_join (fun e w => ∃ (D : Dk) (X Y : List (Value × List Value)) (u u' : Value), e = [(1, .slice (some ⟨b, f, none⟩) os'.length cap), (5, .pointer (some ⟨q1, 0, none⟩)), (6, .pointer (some ⟨q2, 0, none⟩)), (8, u), (9, u'), (10, .int .i64 k), (12, .slice ax o.bl.length cx)] ∧ FInv (k + 1) D X Y ∧ Sat G (row 5 1 (.slice ax o.bl.length cx) o.bl.length (bys o.bl) :: row 23 1 u X.length (X.map Prod.fst) :: both (rw0 5 X) :: row 52 1 u' Y.length (Y.map Prod.fst) :: both (rw0 3 Y) :: dsk q1 D :: rdk q2 D :: L) w) ?_ ?_
      · -- as far as J34
        refine x_seq ?_
        refine x_region rfl ?_
        refine x_fld rfl rfl trivial fo_coppicelaw06_Op_0 rfl ?_  -- law.go:382 fieldAddr[43] t11 .Kind(+0)
        refine x_ld rfl rfl trivial rfl (Loads.blk1 one_int hw (by repeat (first | with_reducible exact Pick.here | apply Pick.there)) rfl) ?_  -- law.go:382 load[3] t60
        refine xl_nil ?_
        refine x_block ?_
        refine x_seq ?_
        refine x_region rfl ?_
        refine x_eq rfl rfl trivial rfl rfl rfl ?_  -- law.go:383 eql[3] t61 1
        refine x_as rfl rfl trivial rfl ?_  -- law.go:383 assign t68
        refine xl_nil ?_
        refine x_if rfl (fun h6 => ?_) (fun h6 => ?_)
        · -- yes
          have hst : stepD D o = (D.write o.i o.bl).2 := by unfold stepD; rw [if_pos h6]
          have hF' := hF.step o
          rw [hst] at hF'
          refine x_seq ?_
          refine x_region rfl ?_
          refine x_mv rfl rfl trivial rfl ?_  -- law.go:384 move t5
          refine x_fld rfl rfl trivial fo_coppicelaw06_Op_1 rfl ?_  -- law.go:384 fieldAddr[43] t11 .I(+1)
          refine x_ld rfl rfl trivial rfl (Loads.blk1 one_int hw (by repeat (first | with_reducible exact Pick.here | apply Pick.there)) rfl) ?_  -- law.go:384 load[3] t70
          refine x_mv rfl rfl trivial rfl ?_  -- law.go:384 move t12
          refine x_call rfl rfl trivial cal_disk_Disk_Write rfl (ct_disk_Disk_Write (D := D) (p := q1) (l := o.bl) (hw.pick (A := dsk q1 D) (by repeat (first | with_reducible exact Pick.here | apply Pick.there))) (rowB (v := .slice ax o.bl.length cx) rfl (by repeat (first | with_reducible exact Pick.here | apply Pick.there))) (by omega) (by omega)) rfl (fun w v73 hv => ?_)  -- law.go:384 call f25 (*coppice/disk.Disk).Write(t69, t71, t72)
          obtain ⟨rfl, hw⟩ := hv
          refine xl_nil ?_
          refine x_region rfl ?_
          refine x_mv rfl rfl trivial rfl ?_  -- law.go:385 move t6
          refine x_fld rfl rfl trivial fo_coppicelaw06_Op_1 rfl ?_  -- law.go:385 fieldAddr[43] t11 .I(+1)
          refine x_ld rfl rfl trivial rfl (Loads.blk1 one_int hw (by repeat (first | with_reducible exact Pick.here | apply Pick.there)) rfl) ?_  -- law.go:385 load[3] t75
          refine x_fld rfl rfl trivial fo_coppicelaw06_Op_2 rfl ?_  -- law.go:385 fieldAddr[43] t11 .B(+2)
          refine x_ld rfl rfl trivial rfl (Loads.blk1 one_sl_uint8 hw (by repeat (first | with_reducible exact Pick.here | apply Pick.there)) rfl) ?_  -- law.go:385 load[23] t77
          refine x_call rfl rfl trivial cal_ref06_Disk_Write rfl (ct_ref06_Disk_Write (D := D) (q := q2) (l := o.bl) (hw.pick (A := rdk q2 D) (by repeat (first | with_reducible exact Pick.here | apply Pick.there))) (hob.of (by repeat (first | exact Suf.refl _ | apply Suf.cons))) (by omega) (by omega)) rfl (fun w v79 hv => ?_)  -- law.go:385 call f37 (*coppice/coppiceref06.Disk).Write(t74, t76, t78)
          obtain ⟨rfl, hw⟩ := hv
          refine xl_nil ?_
          exact ⟨[(1, _), (5, _), (6, _), (8, _), (9, _), (10, _), (12, _)], (by repeat (first | exact Sub.nil _ | refine Sub.cons rfl ?_)), _, _, _, _, _, rfl, hF', (hw.bring (As := [blk b11 _ _, row 5 1 (.slice ax _ _) _ _, row _ 1 u _ _, both (rw0 5 X), row _ 1 u' _ _, both _, dsk q1 _, rdk q2 _]) (by repeat (first | exact Bring.nil | (apply Bring.cons; repeat (first | with_reducible exact Pick.here | apply Pick.there))))).tail⟩
        · -- no
          refine x_seq ?_
          refine x_region rfl ?_
          refine x_eq rfl rfl trivial rfl rfl rfl ?_  -- law.go:386 eql[3] t61 10
          refine x_as rfl rfl trivial rfl ?_  -- law.go:386 assign t81
          refine xl_nil ?_
          refine x_if rfl (fun h7 => ?_) (fun h7 => ?_)
          · -- yes
            have hst : stepD D o = (D.lay o.i o.bl).2 := by unfold stepD; rw [if_neg (by omega), if_neg (by omega), if_neg (by omega), if_neg (by omega), if_neg (by omega), if_pos h7]
            have hF' := hF.step o
            rw [hst] at hF'
            refine x_seq ?_
            refine x_region rfl ?_
            refine x_mv rfl rfl trivial rfl ?_  -- law.go:387 move t5
            refine x_fld rfl rfl trivial fo_coppicelaw06_Op_1 rfl ?_  -- law.go:387 fieldAddr[43] t11 .I(+1)
            refine x_ld rfl rfl trivial rfl (Loads.blk1 one_int hw (by repeat (first | with_reducible exact Pick.here | apply Pick.there)) rfl) ?_  -- law.go:387 load[3] t83
            refine x_mv rfl rfl trivial rfl ?_  -- law.go:387 move t12
            refine x_call rfl rfl trivial cal_disk_Disk_Lay rfl (ct_disk_Disk_Lay (D := D) (p := q1) (l := o.bl) (hw.pick (A := dsk q1 D) (by repeat (first | with_reducible exact Pick.here | apply Pick.there))) (rowB (v := .slice ax o.bl.length cx) rfl (by repeat (first | with_reducible exact Pick.here | apply Pick.there)))) rfl (fun w v86 hv => ?_)  -- law.go:387 call f38 (*coppice/disk.Disk).Lay(t82, t84, t85)
            obtain ⟨rfl, hw⟩ := hv
            refine xl_nil ?_
            refine x_region rfl ?_
            refine x_mv rfl rfl trivial rfl ?_  -- law.go:388 move t6
            refine x_fld rfl rfl trivial fo_coppicelaw06_Op_1 rfl ?_  -- law.go:388 fieldAddr[43] t11 .I(+1)
            refine x_ld rfl rfl trivial rfl (Loads.blk1 one_int hw (by repeat (first | with_reducible exact Pick.here | apply Pick.there)) rfl) ?_  -- law.go:388 load[3] t88
            refine x_fld rfl rfl trivial fo_coppicelaw06_Op_2 rfl ?_  -- law.go:388 fieldAddr[43] t11 .B(+2)
            refine x_ld rfl rfl trivial rfl (Loads.blk1 one_sl_uint8 hw (by repeat (first | with_reducible exact Pick.here | apply Pick.there)) rfl) ?_  -- law.go:388 load[23] t90
            refine x_call rfl rfl trivial cal_ref06_Disk_Lay rfl (ct_ref06_Disk_Lay (D := D) (q := q2) (l := o.bl) (hw.pick (A := rdk q2 D) (by repeat (first | with_reducible exact Pick.here | apply Pick.there))) (hob.of (by repeat (first | exact Suf.refl _ | apply Suf.cons)))) rfl (fun w v92 hv => ?_)  -- law.go:388 call f39 (*coppice/coppiceref06.Disk).Lay(t87, t89, t91)
            obtain ⟨rfl, hw⟩ := hv
            refine xl_nil ?_
            exact ⟨[(1, _), (5, _), (6, _), (8, _), (9, _), (10, _), (12, _)], (by repeat (first | exact Sub.nil _ | refine Sub.cons rfl ?_)), _, _, _, _, _, rfl, hF', (hw.bring (As := [blk b11 _ _, row 5 1 (.slice ax _ _) _ _, row _ 1 u _ _, both (rw0 5 X), row _ 1 u' _ _, both _, dsk q1 _, rdk q2 _]) (by repeat (first | exact Bring.nil | (apply Bring.cons; repeat (first | with_reducible exact Pick.here | apply Pick.there))))).tail⟩
          · -- no
            refine x_seq ?_
            refine x_region rfl ?_
            refine x_eq rfl rfl trivial rfl rfl rfl ?_  -- law.go:389 eql[3] t61 0
            refine x_as rfl rfl trivial rfl ?_  -- law.go:389 assign t94
            refine xl_nil ?_
            refine x_if rfl (fun h8 => ?_) (fun h8 => ?_)
            · -- yes
              have hrl := readA_le hDok o.i
              refine x_seq ?_
              refine x_region rfl ?_
              refine x_mv rfl rfl trivial rfl ?_  -- law.go:390 move t5
              refine x_fld rfl rfl trivial fo_coppicelaw06_Op_1 rfl ?_  -- law.go:390 fieldAddr[43] t11 .I(+1)
              refine x_ld rfl rfl trivial rfl (Loads.blk1 one_int hw (by repeat (first | with_reducible exact Pick.here | apply Pick.there)) rfl) ?_  -- law.go:390 load[3] t97
              refine x_call rfl rfl trivial cal_disk_Disk_Read rfl (ct_ReadD (D := D) (p := q1) (i := o.i) (hw.pick (A := dsk q1 D) (by repeat (first | with_reducible exact Pick.here | apply Pick.there)))) rfl (fun w v99 hv => ?_)  -- law.go:390 call f40 (*coppice/disk.Disk).Read(t96, t98)
              obtain ⟨x, rfl, hw⟩ := hv
              refine x_mv rfl rfl trivial rfl ?_  -- law.go:390 move t99
              refine x_ext rfl rfl trivial rfl rfl ?_  -- law.go:390 extract t95 .0
              refine x_ext rfl rfl trivial rfl rfl ?_  -- law.go:390 extract t95 .1
              refine x_as rfl rfl trivial rfl ?_  -- law.go:390 assign t100
              refine x_as rfl rfl trivial rfl ?_  -- law.go:390 assign t101
              refine xl_nil ?_
              refine x_seq ?_
              refine x_region rfl ?_
              refine x_mv rfl rfl trivial rfl ?_  -- law.go:391 move t5
              refine x_fld rfl rfl trivial fo_coppicelaw06_Op_1 rfl ?_  -- law.go:391 fieldAddr[43] t11 .I(+1)
              refine x_ld rfl rfl trivial rfl (Loads.blk1 one_int hw (by repeat (first | with_reducible exact Pick.here | apply Pick.there)) rfl) ?_  -- law.go:391 load[3] t104
              refine x_call rfl rfl trivial cal_disk_Disk_Read rfl (ct_ReadD (D := D) (p := q1) (i := o.i) (hw.pick (A := dsk q1 D) (by repeat (first | with_reducible exact Pick.here | apply Pick.there)))) rfl (fun w v106 hv => ?_)  -- law.go:391 call f40 (*coppice/disk.Disk).Read(t103, t105)
              obtain ⟨y, rfl, hw⟩ := hv
              refine x_mv rfl rfl trivial rfl ?_  -- law.go:391 move t106
              refine x_ext rfl rfl trivial rfl rfl ?_  -- law.go:391 extract t102 .0
              refine x_ext rfl rfl trivial rfl rfl ?_  -- law.go:391 extract t102 .1
              refine x_as rfl rfl trivial rfl ?_  -- law.go:391 assign t107
              refine x_as rfl rfl trivial rfl ?_  -- law.go:391 assign t108
              refine xl_nil ?_
              refine x_seq ?_
              refine x_region rfl ?_
              refine x_mv rfl rfl trivial rfl ?_  -- law.go:392 move t6
              refine x_fld rfl rfl trivial fo_coppicelaw06_Op_1 rfl ?_  -- law.go:392 fieldAddr[43] t11 .I(+1)
              refine x_ld rfl rfl trivial rfl (Loads.blk1 one_int hw (by repeat (first | with_reducible exact Pick.here | apply Pick.there)) rfl) ?_  -- law.go:392 load[3] t111
              refine x_call rfl rfl trivial cal_ref06_Disk_Read rfl (ct_ReadR (D := D) (q := q2) (i := o.i) (hw.pick (A := rdk q2 D) (by repeat (first | with_reducible exact Pick.here | apply Pick.there))) (by omega)) rfl (fun w v113 hv => ?_)  -- law.go:392 call f41 (*coppice/coppiceref06.Disk).Read(t110, t112)
              obtain ⟨z, rfl, hw⟩ := hv
              obtain ⟨ax1, cx1, rfl⟩ := row_form (hw.pick (A := row 5 1 x _ _) (by repeat (first | with_reducible exact Pick.here | apply Pick.there)))
              obtain ⟨ax2, cx2, rfl⟩ := row_form (hw.pick (A := row 5 1 y _ _) (by repeat (first | with_reducible exact Pick.here | apply Pick.there)))
              refine x_mv rfl rfl trivial rfl ?_  -- law.go:392 move t113
              refine x_ext rfl rfl trivial rfl rfl ?_  -- law.go:392 extract t109 .0
              refine x_ext rfl rfl trivial rfl rfl ?_  -- law.go:392 extract t109 .1
              refine x_as rfl rfl trivial rfl ?_  -- law.go:392 assign t114
              refine x_as rfl rfl trivial rfl ?_  -- law.go:392 assign t115
              refine xl_nil ?_
              refine x_seq ?_
              refine x_seq ?_
              refine x_region rfl ?_
              refine x_mv rfl rfl trivial rfl ?_  -- law.go:393 move t13
              refine x_mv rfl rfl trivial rfl ?_  -- law.go:393 move t17
              refine x_call rfl rfl trivial cal_ref00_EqBytes rfl (ct_ref00_EqBytes (v := .slice ax1 _ cx1) (v' := z) (l := (D.readA o.i).1) (l' := (D.readA o.i).1) hw (hw.knows (rowB (v := .slice ax1 _ cx1) rfl (by repeat (first | with_reducible exact Pick.here | apply Pick.there)))) (hw.knows (rowB (v := z) rfl (by repeat (first | with_reducible exact Pick.here | apply Pick.there)))) (by omega) (by omega)) rfl (fun w v118 hv => ?_)  -- law.go:393 call f19 coppice/coppiceref00.EqBytes(t116, t117)
              obtain ⟨rfl, hw⟩ := hv
              refine x_notp rfl rfl trivial rfl ?_  -- law.go:393 unOp "not" 4 118
              refine x_mv rfl rfl trivial rfl ?_  -- law.go:393 move t119
              refine xl_split (d := 120) rfl (fun h9 => ?_) (fun h9 => ?_)
              · -- yes
                exact absurd rfl h9
              · -- no
                refine x_mv rfl rfl ⟨_, rfl, rfl⟩ rfl ?_  -- law.go:393 move t15
                refine x_mv rfl rfl ⟨_, rfl, rfl⟩ rfl ?_  -- law.go:393 move t17
                refine x_call rfl rfl ⟨_, rfl, rfl⟩ cal_ref00_EqBytes rfl (ct_ref00_EqBytes (v := .slice ax2 _ cx2) (v' := z) (l := (D.readA o.i).1) (l' := (D.readA o.i).1) hw (hw.knows (rowB (v := .slice ax2 _ cx2) rfl (by repeat (first | with_reducible exact Pick.here | apply Pick.there)))) (hw.knows (rowB (v := z) rfl (by repeat (first | with_reducible exact Pick.here | apply Pick.there)))) (by omega) (by omega)) rfl (fun w v123 hv => ?_)  -- law.go:393 call f19 coppice/coppiceref00.EqBytes(t121, t122)
                obtain ⟨rfl, hw⟩ := hv
                refine x_notp rfl rfl ⟨_, rfl, rfl⟩ rfl ?_  -- law.go:393 unOp "not" 4 123
                refine x_pickF rfl rfl trivial rfl rfl rfl ?_  -- law.go:393 pick t120 ? True : t124
                refine xl_nil ?_
                refine x_if rfl (fun h10 => ?_) (fun h10 => ?_)
                · -- yes
                  exact absurd rfl h10
                · -- no
                  refine x_skip ?_
                  refine x_region rfl ?_
                  refine x_mv rfl rfl trivial rfl ?_  -- law.go:396 move t8
                  refine x_mv rfl rfl trivial rfl ?_  -- law.go:396 move t13
                  refine x_mv rfl rfl trivial rfl ?_  -- law.go:396 move t15
                  --                   refine x_TODO_bs2 -- law.go:396 buildSlice 67 2 [[0, 127], [1, 128]]
                  refine x_bsN (cs := [.slice ax1 (D.readA o.i).1.length cx1, .slice ax2 (D.readA o.i).1.length cx2]) rfl rfl trivial U_sl_sl_uint8 sz_sl_uint8 z_sl_uint8 (by decide) rfl (by kernel_rfl) hw rfl (fun w b129 hw => ?_)
                  -- law.go:396 append(t126, t129)
                  refine x_app (m := X.length) (k := 2) (news := [.slice ax1 (D.readA o.i).1.length cx1, .slice ax2 (D.readA o.i).1.length cx2]) rfl rfl trivial U_sl_sl_uint8 sz_sl_uint8 by_sl_uint8 zs_sl_uint8 rfl rfl hw (by repeat (first | with_reducible exact Pick.here | apply Pick.there)) (Rd.blk0 hw (by repeat (first | with_reducible exact Pick.here | apply Pick.there))) rfl (by intro u hu; simp at hu; rcases hu with rfl | rfl <;> rfl) (by simp only [maxLen]; omega) (by omega) rfl (fun w v130 hw => ?_)
                  refine x_as rfl rfl trivial rfl ?_  -- law.go:396 assign t130
                  refine xl_nil ?_
                  have hw := (hw.bring (As := [both (rw0 5 X), row 5 1 (.slice ax1 _ cx1) _ _, row 5 1 (.slice ax2 _ cx2) _ _]) (by repeat (first | exact Bring.nil | (apply Bring.cons; repeat (first | with_reducible exact Pick.here | apply Pick.there))))).rw0_more (bys_length _)
                  have hw := hw.rw0_more (bys_length _)
                  have hF' := hF.moreX (a := (.slice ax1 (D.readA o.i).1.length cx1, bys (D.readA o.i).1)) (b := (.slice ax2 (D.readA o.i).1.length cx2, bys (D.readA o.i).1)) (by rw [bys_length]; omega) (by rw [bys_length]; omega)
                  refine ⟨[(1, _), (5, _), (6, _), (8, v130), (9, _), (10, _), (12, _)], (by repeat (first | exact Sub.nil _ | refine Sub.cons rfl ?_)), _, _, _, _, _, rfl, hF', ?_⟩
                  have hw := (hw.bring (As := [blk b11 _ _, blk b129 _ _, row 5 1 z _ _, row 5 1 (.slice ax _ _) _ _, row _ 1 v130 _ _, both (rw0 5 _), row _ 1 u' _ _, both _, dsk q1 _, rdk q2 _]) (by repeat (first | exact Bring.nil | (apply Bring.cons; repeat (first | with_reducible exact Pick.here | apply Pick.there))))).tail.tail.tail
                  simpa using hw
            · -- no
              refine x_seq ?_
              refine x_region rfl ?_
              refine x_eq rfl rfl trivial rfl rfl rfl ?_  -- law.go:397 eql[3] t61 7
              refine x_as rfl rfl trivial rfl ?_  -- law.go:397 assign t132
              refine xl_nil ?_
              refine x_if rfl (fun h11 => ?_) (fun h11 => ?_)
              · -- yes
                refine x_region rfl ?_
                refine x_mv rfl rfl trivial rfl ?_  -- law.go:398 move t9
                refine x_mv rfl rfl trivial rfl ?_  -- law.go:398 move t5
                refine x_call rfl rfl trivial cal_disk_Disk_Unsynced rfl (ct_disk_Disk_Unsynced (D := D) (p := q1) (hw.pick (A := dsk q1 D) (by repeat (first | with_reducible exact Pick.here | apply Pick.there))) (by omega)) rfl (fun w v135 hv => ?_)  -- law.go:398 call f31 (*coppice/disk.Disk).Unsynced(t134)
                have hw := hv
                refine x_mv rfl rfl trivial rfl ?_  -- law.go:398 move t5
                refine x_call rfl rfl trivial cal_disk_Disk_Unsynced rfl (ct_disk_Disk_Unsynced (D := D) (p := q1) (hw.pick (A := dsk q1 D) (by repeat (first | with_reducible exact Pick.here | apply Pick.there))) (by omega)) rfl (fun w v137 hv => ?_)  -- law.go:398 call f31 (*coppice/disk.Disk).Unsynced(t136)
                have hw := hv
                obtain ⟨ax1, cx1, rfl⟩ := row_form (hw.pick (A := row 3 1 v135 _ _) (by repeat (first | with_reducible exact Pick.here | apply Pick.there)))
                obtain ⟨ax2, cx2, rfl⟩ := row_form (hw.pick (A := row 3 1 v137 _ _) (by repeat (first | with_reducible exact Pick.here | apply Pick.there)))
                --                 refine x_TODO_bs2 -- law.go:398 buildSlice 68 2 [[0, 135], [1, 137]]
                refine x_bsN (cs := [.slice ax1 D.ws.length cx1, .slice ax2 D.ws.length cx2]) rfl rfl trivial U_sl_sl_int sz_sl_int z_sl_int (by decide) rfl (by kernel_rfl) hw rfl (fun w b138 hw => ?_)
                -- law.go:398 append(t133, t138)
                refine x_app (m := Y.length) (k := 2) (news := [.slice ax1 D.ws.length cx1, .slice ax2 D.ws.length cx2]) rfl rfl trivial U_sl_sl_int sz_sl_int by_sl_int zs_sl_int rfl rfl hw (by repeat (first | with_reducible exact Pick.here | apply Pick.there)) (Rd.blk0 hw (by repeat (first | with_reducible exact Pick.here | apply Pick.there))) rfl (by intro u hu; simp at hu; rcases hu with rfl | rfl <;> rfl) (by simp only [maxLen]; omega) (by omega) rfl (fun w v139 hw => ?_)
                refine x_as rfl rfl trivial rfl ?_  -- law.go:398 assign t139
                refine xl_nil ?_
                have hw := (hw.bring (As := [both (rw0 3 Y), row 3 1 (.slice ax1 _ cx1) _ _, row 3 1 (.slice ax2 _ cx2) _ _]) (by repeat (first | exact Bring.nil | (apply Bring.cons; repeat (first | with_reducible exact Pick.here | apply Pick.there))))).rw0_more (by rw [ints_len, nos_length])
                have hw := hw.rw0_more (by rw [ints_len, nos_length])
                have hF' := hF.moreY (a := (.slice ax1 D.ws.length cx1, ints D.nos)) (b := (.slice ax2 D.ws.length cx2, ints D.nos)) (by rw [ints_len, nos_length]; omega) (by rw [ints_len, nos_length]; omega)
                refine ⟨[(1, _), (5, _), (6, _), (8, _), (9, v139), (10, _), (12, _)], (by repeat (first | exact Sub.nil _ | refine Sub.cons rfl ?_)), _, _, _, _, _, rfl, hF', ?_⟩
                have hw := (hw.bring (As := [blk b11 _ _, blk b138 _ _, row 5 1 (.slice ax _ _) _ _, row _ 1 u _ _, both (rw0 5 _), row _ 1 v139 _ _, both _, dsk q1 _, rdk q2 _]) (by repeat (first | exact Bring.nil | (apply Bring.cons; repeat (first | with_reducible exact Pick.here | apply Pick.there))))).tail.tail
                simpa using hw
              · -- no
                refine x_seq ?_
                refine x_region rfl ?_
                refine x_eq rfl rfl trivial rfl rfl rfl ?_  -- law.go:399 eql[3] t61 9
                refine x_as rfl rfl trivial rfl ?_  -- law.go:399 assign t141
                refine xl_nil ?_
                refine x_if rfl (fun h12 => ?_) (fun h12 => ?_)
                · -- yes
                  refine x_region rfl ?_
                  refine x_mv rfl rfl trivial rfl ?_  -- law.go:400 move t8
                  refine x_mv rfl rfl trivial rfl ?_  -- law.go:400 move t5
                  refine x_call rfl rfl trivial cal_disk_Disk_Image rfl (ct_disk_Disk_Image (D := D) (p := q1) (hw.pick (A := dsk q1 D) (by repeat (first | with_reducible exact Pick.here | apply Pick.there)))) rfl (fun w v144 hv => ?_)  -- law.go:400 call f20 (*coppice/disk.Disk).Image(t143)
                  have hw := hv
                  refine x_mv rfl rfl trivial rfl ?_  -- law.go:400 move t5
                  refine x_call rfl rfl trivial cal_disk_Disk_Image rfl (ct_disk_Disk_Image (D := D) (p := q1) (hw.pick (A := dsk q1 D) (by repeat (first | with_reducible exact Pick.here | apply Pick.there)))) rfl (fun w v146 hv => ?_)  -- law.go:400 call f20 (*coppice/disk.Disk).Image(t145)
                  have hw := hv
                  obtain ⟨ax1, cx1, rfl⟩ := row_form (hw.pick (A := row 5 1 v144 _ _) (by repeat (first | with_reducible exact Pick.here | apply Pick.there)))
                  obtain ⟨ax2, cx2, rfl⟩ := row_form (hw.pick (A := row 5 1 v146 _ _) (by repeat (first | with_reducible exact Pick.here | apply Pick.there)))
                  obtain ⟨N8, hN8⟩ : ∃ n, n = 512 * D.lasts.length := ⟨_, rfl⟩
                  rw [← hN8] at hw hil ⊢
                  --                   refine x_TODO_bs2 -- law.go:400 buildSlice 67 2 [[0, 144], [1, 146]]
                  refine x_bsN (cs := [.slice ax1 N8 cx1, .slice ax2 N8 cx2]) rfl rfl trivial U_sl_sl_uint8 sz_sl_uint8 z_sl_uint8 (by decide) rfl (by kernel_rfl) hw rfl (fun w b147 hw => ?_)
                  -- law.go:400 append(t142, t147)
                  refine x_app (m := X.length) (k := 2) (news := [.slice ax1 N8 cx1, .slice ax2 N8 cx2]) rfl rfl trivial U_sl_sl_uint8 sz_sl_uint8 by_sl_uint8 zs_sl_uint8 rfl rfl hw (by repeat (first | with_reducible exact Pick.here | apply Pick.there)) (Rd.blk0 hw (by repeat (first | with_reducible exact Pick.here | apply Pick.there))) rfl (by intro u hu; simp at hu; rcases hu with rfl | rfl <;> rfl) (by simp only [maxLen]; omega) (by omega) rfl (fun w v148 hw => ?_)
                  refine x_as rfl rfl trivial rfl ?_  -- law.go:400 assign t148
                  refine xl_nil ?_
                  have hw := (hw.bring (As := [both (rw0 5 X), row 5 1 (.slice ax1 _ cx1) _ _, row 5 1 (.slice ax2 _ cx2) _ _]) (by repeat (first | exact Bring.nil | (apply Bring.cons; repeat (first | with_reducible exact Pick.here | apply Pick.there))))).rw0_more (by rw [bys_length, hil])
                  have hw := hw.rw0_more (by rw [bys_length, hil])
                  have hF' := hF.moreX (a := (.slice ax1 N8 cx1, bys D.img)) (b := (.slice ax2 N8 cx2, bys D.img)) (by rw [bys_length]; omega) (by rw [bys_length]; omega)
                  refine ⟨[(1, _), (5, _), (6, _), (8, v148), (9, _), (10, _), (12, _)], (by repeat (first | exact Sub.nil _ | refine Sub.cons rfl ?_)), _, _, _, _, _, rfl, hF', ?_⟩
                  have hw := (hw.bring (As := [blk b11 _ _, blk b147 _ _, row 5 1 (.slice ax _ _) _ _, row _ 1 v148 _ _, both (rw0 5 _), row _ 1 u' _ _, both _, dsk q1 _, rdk q2 _]) (by repeat (first | exact Bring.nil | (apply Bring.cons; repeat (first | with_reducible exact Pick.here | apply Pick.there))))).tail.tail
                  simpa using hw
                · -- no
                  refine x_seq ?_
                  refine x_region rfl ?_
                  refine x_mv rfl rfl trivial rfl ?_  -- law.go:402 move t5
                  refine x_mv rfl rfl trivial rfl ?_  -- law.go:402 move t6
                  refine x_ld rfl rfl trivial rfl (Loads.blkA many_coppicelaw06_Op (l := [.int .i64 o.kind, .int .i64 o.i, o.b, o.keep]) hw (by repeat (first | with_reducible exact Pick.here | apply Pick.there)) rfl) ?_  -- law.go:402 load[43] t11
                  refine x_call rfl rfl trivial cal_law06_plays rfl (ct_law06_plays (o := o) (hw.bring (As := [dsk q1 D, rdk q2 D]) (by repeat (first | exact Bring.nil | (apply Bring.cons; repeat (first | with_reducible exact Pick.here | apply Pick.there))))) (hoo.of (by repeat (first | exact Suf.refl _ | apply Suf.cons))) ⟨by omega, by omega⟩) rfl (fun w v65 hv => ?_)  -- law.go:402 call f42 coppice/coppicelaw06.plays(t62, t63, t64)
                  obtain ⟨rfl, hw⟩ := hv
                  -- law.go:402 unOp "not" 4 65
                  refine x_not rfl rfl trivial rfl ?_
                  refine xl_nil ?_
                  refine x_cond_false rfl ?_
                  refine x_skip ?_
                  exact ⟨[(1, _), (5, _), (6, _), (8, _), (9, _), (10, _), (12, _)], (by repeat (first | exact Sub.nil _ | refine Sub.cons rfl ?_)), _, _, _, _, _, rfl, hF.step o, (hw.bring (As := [blk b11 _ _, row 5 1 (.slice ax _ _) _ _, row _ 1 u _ _, both (rw0 5 X), row _ 1 u' _ _, both _, dsk q1 _, rdk q2 _]) (by repeat (first | exact Bring.nil | (apply Bring.cons; repeat (first | with_reducible exact Pick.here | apply Pick.there))))).tail⟩
      · -- from J34
        clear hw
        rintro e w ⟨D, X, Y, u, u', rfl, hF, hw⟩
        refine x_seq ?_
        refine x_region rfl ?_
        refine x_as rfl rfl trivial rfl ?_  -- law.go:406 assign 0
        refine xl_nil ?_
        refine x_block ?_
        refine x_loop (fun m e w => ∃ (j : Nat) (cs : List Value), j ≤ o.bl.length ∧ m = o.bl.length - j ∧ e = [(1, .slice (some ⟨b, f, none⟩) os'.length cap), (5, .pointer (some ⟨q1, 0, none⟩)), (6, .pointer (some ⟨q2, 0, none⟩)), (8, u), (9, u'), (10, .int .i64 k), (12, .slice ax o.bl.length cx), (19, .int .i64 j)] ∧ cs.length = o.bl.length ∧ (∀ c ∈ cs, ∃ i, c = .int .u8 i) ∧ Sat G (row 5 1 (.slice ax o.bl.length cx) o.bl.length cs :: row 23 1 u X.length (X.map Prod.fst) :: both (rw0 5 X) :: row 52 1 u' Y.length (Y.map Prod.fst) :: both (rw0 3 Y) :: dsk q1 D :: rdk q2 D :: L) w)
          (m := o.bl.length) (e₀ := [(1, .slice (some ⟨b, f, none⟩) os'.length cap), (5, .pointer (some ⟨q1, 0, none⟩)), (6, .pointer (some ⟨q2, 0, none⟩)), (8, u), (9, u'), (10, .int .i64 k), (12, .slice ax o.bl.length cx), (19, .int .i64 (0 : Nat))]) (by repeat (first | exact Sub.nil _ | refine Sub.cons rfl ?_))
          ⟨0, bys o.bl, Nat.zero_le _, rfl, rfl, bys_length _, fun c hc => (by obtain ⟨i, -, rfl⟩ := List.mem_map.1 hc; exact ⟨_, rfl⟩), hw⟩ ?_
        rintro m e w ⟨j, cs, hj, rfl, rfl, hcs, hci, hw⟩
        refine x_seq ?_
        refine x_seq ?_
        refine x_region rfl ?_
        refine x_mv rfl rfl trivial rfl ?_  -- law.go:406 move t19
        refine x_mv rfl rfl trivial rfl ?_  -- law.go:406 move t12
        refine x_len rfl rfl trivial rfl U_sl_uint8 rfl ?_  -- law.go:406 len(t150)
        refine x_lt rfl rfl trivial rfl rfl ?_  -- law.go:406 lss[3] t149 t151
        refine xl_nil ?_
        refine x_if rfl (fun h14 => ?_) (fun h14 => ?_)
        · -- yes
          have hj' : j < o.bl.length := by omega
          obtain ⟨hcl, bx, cur, rfl, hcc, hcm, hcl2, hw⟩ := row_some hw (by omega)
          have hkc : j < cs.length := by omega
          obtain ⟨i, hi⟩ := hci _ (List.getElem_mem hkc)
          have hget : (cs ++ cur)[0 + (j : Int).toNat]? = some (.int .u8 i) := by
            rw [Int.toNat_natCast, Nat.zero_add, List.getElem?_append_left hkc, List.getElem?_eq_getElem hkc, hi]
          refine x_skip ?_
          refine x_seq ?_
          refine x_block ?_
          refine x_region rfl ?_
          refine x_mv rfl rfl trivial rfl ?_  -- law.go:407 move t12
          refine x_mv rfl rfl trivial rfl ?_  -- law.go:407 move t19
          refine x_mv rfl rfl trivial rfl ?_  -- law.go:407 move t12
          refine x_mv rfl rfl trivial rfl ?_  -- law.go:407 move t19
          refine x_idx1 rfl rfl trivial U_sl_uint8 sz_uint8 rfl rfl ⟨by omega, by omega⟩ ?_  -- law.go:407 indexAddr[23] t157 [t158] 
          refine x_ld rfl rfl trivial rfl (Loads.blk1 one_uint8 hw (by repeat (first | with_reducible exact Pick.here | apply Pick.there)) hget) ?_  -- law.go:407 load[5] t159
          refine x_xor rfl rfl trivial rfl rfl ?_  -- law.go:407 xor[5] t160 90
          refine x_idx1 rfl rfl trivial U_sl_uint8 sz_uint8 rfl rfl ⟨by omega, by omega⟩ ?_  -- law.go:407 indexAddr[23] t155 [t156] 
          -- law.go:407 store[5] t162 := t161
          refine x_st1 (l' := _) rfl trivial rfl rfl one_uint8 rfl hw (by repeat (first | with_reducible exact Pick.here | apply Pick.there)) (by simp; omega) rfl rfl (fun w hw => ?_)
          refine xl_nil ?_
          refine x_region rfl ?_
          refine x_mv rfl rfl trivial rfl ?_  -- law.go:406 move t19
          refine x_addi rfl rfl trivial rfl rfl (by omega) ?_  -- law.go:406 add[3] t153 1
          refine x_as rfl rfl trivial rfl ?_  -- law.go:406 assign t154
          refine xl_nil ?_
          rw [Int.toNat_natCast, Nat.zero_add, List.set_append_left _ _ hkc] at hw
          refine ⟨o.bl.length - (j + 1), by omega, [(1, _), (5, _), (6, _), (8, _), (9, _), (10, _), (12, _), (19, .int .i64 (j + 1 : Nat))], (by repeat (first | exact Sub.nil _ | refine Sub.cons rfl ?_)), j + 1, _, by omega, rfl, rfl, ?_, ?_, row_mk hw (by simpa using hcl) hcc hcm (by simpa using hcl2)⟩
          · rw [List.length_set]; exact hcs
          · intro c hc
            rcases List.mem_or_eq_of_mem_set hc with h | h
            · exact hci c h
            · exact ⟨_, h⟩
        · -- no
          refine x_exit rfl ?_  -- exit 3
          refine x_region rfl ?_
          refine x_mv rfl rfl trivial rfl ?_  -- law.go:379 move t10
          refine x_addi rfl rfl trivial rfl rfl (by omega) ?_  -- law.go:379 add[3] t51 1
          refine x_as rfl rfl trivial rfl ?_  -- law.go:379 assign t52
          refine xl_nil ?_
          exact ⟨os'.length - (k + 1), by omega, [(1, _), (5, _), (6, _), (8, _), (9, _), (10, .int .i64 (k + 1 : Nat))], (by repeat (first | exact Sub.nil _ | refine Sub.cons rfl ?_)), k + 1, _, _, _, _, _, by omega, rfl, rfl, hF, hw.tail⟩
    · -- no
      refine x_exit rfl ?_  -- exit 0
      refine x_seq ?_
      refine x_seq ?_
      refine x_region rfl ?_
      refine x_mv rfl rfl trivial rfl ?_  -- law.go:410 move t8
      refine x_call rfl rfl trivial cal_ref00_Apart rfl (ct_ref00_Apart (X := X) hw (by omega) hF.xb) rfl (fun w v164 hv => ?_)  -- law.go:410 call f43 coppice/coppiceref00.Apart(t163)
      obtain ⟨rfl, hw⟩ := hv
      -- law.go:410 unOp "not" 4 164
      refine x_not rfl rfl trivial rfl ?_
      refine x_mv rfl rfl trivial rfl ?_  -- law.go:410 move t165
      refine x_mv rfl rfl ⟨_, rfl, rfl⟩ rfl ?_  -- law.go:410 move t9
      refine x_call rfl rfl ⟨_, rfl, rfl⟩ cal_ref00_ApartInts rfl (ct_ref00_ApartInts (X := Y) hw (by omega) hF.yb) rfl (fun w v168 hv => ?_)  -- law.go:410 call f44 coppice/coppiceref00.ApartInts(t167)
      obtain ⟨rfl, hw⟩ := hv
      obtain ⟨s, wv, ss, hw, hss⟩ := rdk_lasts (hw.pick (A := rdk q2 D) (by repeat (first | with_reducible exact Pick.here | apply Pick.there)))
      -- law.go:410 unOp "not" 4 168
      refine x_not rfl rfl ⟨_, rfl, rfl⟩ rfl ?_
      refine x_pickF rfl rfl trivial rfl rfl rfl ?_  -- law.go:410 pick t166 ? True : t169
      refine xl_nil ?_
      refine x_cond_false rfl ?_
      refine x_skip ?_
      refine x_seq ?_
      refine x_draw [2, 3, 4, 5, 0, 1, 6, 7, 8, 9, 10, 11, 12, 13, 14] mixed (by kernel_rfl) ?_  -- region 40
      replace hw := hw.drawn (w.drawn + 1)
      refine x_mv rfl rfl trivial rfl ?_  -- law.go:413 move t6
      refine x_nc rfl rfl trivial rfl ?_  -- law.go:413 nilCheck t173
      refine x_fld rfl rfl trivial fo_coppiceref06_Disk_0 rfl ?_  -- law.go:413 fieldAddr[56] t174 .Lasts(+0)
      refine x_ld rfl rfl trivial rfl (Loads.blk1 one_sl_uint8 hw (by repeat (first | with_reducible exact Pick.here | apply Pick.there)) rfl) ?_  -- law.go:413 load[23] t175
      refine x_mv rfl rfl trivial rfl ?_  -- law.go:413 move t5
      -- law.go:413 call f20 (*coppice/disk.Disk).Image(t171)
      refine x_callP rfl rfl trivial cal_disk_Disk_Image rfl (ct_disk_Disk_Image (D := D) (p := q1) (hw.pick (A := dsk q1 D) (by repeat (first | with_reducible exact Pick.here | apply Pick.there)))) (fun w v hv q' hq => ?_) (fun w v172 hw => ?_)
      · obtain rfl := pend_one (q0 := 5) (by kernel_rfl) hq
        exact chk_ld rfl rfl rfl (Loads.blk1 one_sl_uint8 hv (by repeat (first | with_reducible exact Pick.here | apply Pick.there)) rfl)
      refine x_call rfl rfl trivial cal_ref00_EqBytes rfl (ct_ref00_EqBytes (l := D.img) (l' := D.img) hw (hw.knows (rowB (v := v172) (n := 512 * D.lasts.length) hil (by repeat (first | with_reducible exact Pick.here | apply Pick.there)))) (hw.knows (rowB (v := s) (n := 512 * D.lasts.length) hil (by repeat (first | with_reducible exact Pick.here | apply Pick.there)))) (by omega) (by omega)) (by kernel_rfl) (fun w v177 hv => ?_)  -- law.go:413 call f19 coppice/coppiceref00.EqBytes(t172, t176)
      obtain ⟨rfl, hw⟩ := hv
      have hw := hw.bring (As := [blk q2 _ _, row 5 1 s _ _, row 92 _ _ _ _, both _]) (by repeat (first | exact Bring.nil | (apply Bring.cons; repeat (first | with_reducible exact Pick.here | apply Pick.there))))
      have hw := rdk_shut (D := D) hDok hss hw
      refine x_mv rfl rfl trivial rfl ?_  -- law.go:413 move t177
      refine xl_split (d := 178) rfl (fun h17 => ?_) (fun h17 => ?_)
      · -- yes
        refine x_mv rfl rfl ⟨_, rfl, rfl⟩ rfl ?_  -- law.go:413 move t5
        refine x_call rfl rfl ⟨_, rfl, rfl⟩ cal_disk_Disk_Unsynced rfl (ct_disk_Disk_Unsynced (D := D) (p := q1) (hw.pick (A := dsk q1 D) (by repeat (first | with_reducible exact Pick.here | apply Pick.there))) (by omega)) (by kernel_rfl) (fun w v180 hv => ?_)  -- law.go:413 call f31 (*coppice/disk.Disk).Unsynced(t179)
        have hw := hv
        refine x_mv rfl rfl ⟨_, rfl, rfl⟩ rfl ?_  -- law.go:413 move t6
        refine x_call rfl rfl ⟨_, rfl, rfl⟩ cal_ref06_Disk_Unsynced rfl (ct_ref06_Disk_Unsynced (D := D) (q := q2) (hw.pick (A := rdk q2 D) (by repeat (first | with_reducible exact Pick.here | apply Pick.there))) (by omega)) (by kernel_rfl) (fun w v182 hv => ?_)  -- law.go:413 call f45 (*coppice/coppiceref06.Disk).Unsynced(t181)
        have hw := hv
        refine x_call rfl rfl ⟨_, rfl, rfl⟩ cal_ref00_EqInts rfl (ct_ref00_EqInts (v := v180) (v' := v182) (l := D.nos) (l' := D.nos) hw (rowI (n := D.ws.length) nos_length (by repeat (first | with_reducible exact Pick.here | apply Pick.there))) (rowI (n := D.ws.length) nos_length (by repeat (first | with_reducible exact Pick.here | apply Pick.there))) (by rw [nos_length]; omega) (by rw [nos_length]; omega)) (by kernel_rfl) (fun w v183 hv => ?_)  -- law.go:413 call f36 coppice/coppiceref00.EqInts(t180, t182)
        obtain ⟨rfl, hw⟩ := hv
        refine x_pickT rfl rfl trivial rfl rfl rfl ?_  -- law.go:413 pick t178 ? t183 : False
        refine x_as rfl rfl trivial rfl ?_  -- law.go:413 assign t184
        refine xl_nil ?_
        refine x_ret ?_
        exact end1 rfl rfl ⟨by simp, (by repeat (first | exact hw | replace hw := hw.tail))⟩
      · -- no
        exact absurd rfl h17

theorem ct_law06_DiskFresh {n : Int} {sv v : Value} {l : Bys} {os : List OpV} (hw : Sat G L w) (ka : Knows L (SlB sv l)) (hll : l.length ≤ 140737488351232) (ko : Script L v os) :
    Calls Try.prog 14 #[.agg #[.int .i64 n, sv], v] w (Ret fun r w' => r = .bool true ∧ Sat G L w') := by
  cases hD : startD n l with
  | none => exact ct_law06_DiskFresh_nil hw ka hll ko hD
  | some D => exact ct_law06_DiskFresh_go hw ka hll ko hD
end
end Go.Proofs.Ytekilljcoplacaa.X
