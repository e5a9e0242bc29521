/- The ground and the walks of this claim, part 3: XVault3 XRef11 XRef11b XInts XTrees XTrees2 XTrees3 XRows XWalk XPo XPo2 XPo3 XPo3b XPo4 XVa XVa2 XVa3 XVa4 XVa5 XVa6 XVa7 XNode XNode2 XNode3. -/
import Derived.Test.YteifbglognfgdaaGreatDoorZ2
namespace Go.Proofs.YteifbglognfgdaaGreatDoor.X
set_option linter.unusedVariables false
set_option linter.unusedSimpArgs false
set_option maxRecDepth 20000
set_option maxHeartbeats 8000000
def numC (x : Int × PgV) : List Value := .int .i64 x.1 :: x.2.cells
def ldErr (c : List Int) : List Int → List (Int × Pg) → Int
 | _, [] => 0
 | seen, x :: r => if cntP c x.1 = 0 then 15 else if x.1 ∈ seen then 10 else if checkP x.2 ≠ 0 then checkP x.2 else ldErr c (x.1 :: seen) r
def plErr (refs : Int) (c : List Int) : Int := if ¬ (1 ≤ (c.length : Int) ∧ (c.length : Int) ≤ 65536 ∧ 2 ≤ refs ∧ refs < 65536) then 1 else if ¬ (∀ x ∈ c, 0 ≤ x ∧ x ≤ refs) then 13 else 0
def vlErr (refs : Int) (c : List Int) (l : List (Int × Pg)) : Int := if plErr refs c ≠ 0 then plErr refs c else if ldErr c [] l ≠ 0 then ldErr c [] l else if (l.length : Int) < talN c 4 then 9 else 0
def pgs (l : List (Int × PgV)) : List (Int × Pg) := l.map fun x => (x.1, x.2.pg)
theorem numC_z (l : List (Int × PgV)) : ∀ r ∈ l.map numC, r.length = 6 := fun r hr => by obtain ⟨x, _, rfl⟩ := List.mem_map.1 hr; rfl
theorem onF_isSome (on : List (Int × PgV)) (n : Int) : (onF on n).isSome = true ↔ n ∈ on.map (·.1) := by
 unfold onF
 rw [Option.isSome_map, List.find?_isSome]
 simp only [List.mem_map, beq_iff_eq]
theorem onF_mem {on : List (Int × PgV)} {n : Int} {p : PgV} (h : onF on n = some p) : (n, p) ∈ on := by
 unfold onF at h
 obtain ⟨x, hx, rfl⟩ := Option.map_eq_some_iff.1 h
 have h1 := List.find?_some hx
 have h2 := List.mem_of_find?_eq_some hx
 simp at h1
 rw [← h1]; exact h2
theorem onKV_keys (on : List (Int × PgV)) : (onKV on).map (·.1) = on.map (·.1) := by simp [onKV, List.map_map, Function.comp_def]
theorem onKV_put {on : List (Int × PgV)} {n : Int} {p : PgV} (h : n ∉ on.map (·.1)) : kput (onKV on) n (.agg p.cells.toArray) = onKV (on ++ [(n, p)]) := by
 rw [kput_new (by rw [onKV_keys]; exact h)]
 simp [onKV]
theorem pgs_step {l : List (Int × PgV)} {k : Nat} {x : Int × PgV} (h : l[k]? = some x) : (pgs l).drop k = (x.1, x.2.pg) :: (pgs l).drop (k + 1) := drop_cons (by unfold pgs; rw [List.getElem?_map, h]; rfl)
section
variable {G : Gh} {L R : List Assn} {w : World}
theorem ct_vault_Load {refs : Int} {vc vl : Value} {c : List Int} {l : List (Int × PgV)} (hw : Sat G L w) (kc : Knows L (SlV vc (ints c))) (hl9 : c.length ≤ 1000000000) (kl : Knows L (SlT 6 vl (l.map numC))) (hlo : ∀ x ∈ l, x.2.Ok L) (hll : l.length ≤ 1000000000) :
  Calls Tryz.prog 21 #[.int .i64 refs, vc, vl] w (Ret fun r w' => (vlErr refs c (pgs l) ≠ 0 ∧ r = .tuple #[.pointer none, .int .i64 (vlErr refs c (pgs l))] ∧ Sat G L w') ∨
   (vlErr refs c (pgs l) = 0 ∧ ∃ vq pq om cv lv fq fv on, r = .tuple #[.pointer (some ⟨vq, 0, none⟩), .int .i64 0] ∧ pgs on = pgs l ∧ (∀ x ∈ on, x.2.Sm) ∧ Sat G (vtP vq pq om (.slice none 0 0) 0 (plN refs c cv lv fq) on (on.map (·.2)) (setQ fq fv (freeR c) L)) w')) := by
 obtain ⟨la, lc, h1, -, -⟩ := (kl.at hw).form
 rw [List.length_map] at h1
 subst h1
 refine calls_of_x (args := [_, _, _]) Tryz.func21 rfl Tryz.ntmps21 rfl rfl ?_
 refine z9 ?_
 refine x_call rfl rfl trivial cal_pool_Load rfl (ct_pool_Load hw kc hl9) rfl (fun w v19 hv => ?_)
 have hv : ∃ (pp : Option Addr) (er : Int), v19 = .tuple #[.pointer pp, .int .i64 er] ∧ ((er ≠ 0 ∧ er = plErr refs c ∧ Sat G L w) ∨ (er = 0 ∧ plErr refs c = 0 ∧ (1 ≤ (c.length : Int) ∧ (c.length : Int) ≤ 65536) ∧ ∃ q cv lv fq fv, pp = some ⟨q, 0, none⟩ ∧ Sat G (plP q (plN refs c cv lv fq) (setQ fq fv (freeR c) L)) w)) := by
  rcases hv with ⟨h1, h2, h3⟩ | ⟨h1, ⟨h2, h3, h4⟩ | ⟨h2, q, cv, lv, fq, fv, h3, h4⟩⟩
  ·exact ⟨none, 1, h2, .inl ⟨by decide, by unfold plErr; rw [if_pos h1], h3⟩⟩
  ·exact ⟨none, 13, h3, .inl ⟨by decide, by unfold plErr; rw [if_neg (fun h => h h1), if_pos h2], h4⟩⟩
  exact ⟨some ⟨q, 0, none⟩, 0, h3, .inr ⟨rfl, by unfold plErr; rw [if_neg (fun h => h h1), if_neg (fun h => h h2)], ⟨h1.1, h1.2.1⟩, q, cv, lv, fq, fv, rfl, h4⟩⟩
 obtain ⟨pp, er, rfl, hv2⟩ := hv
 refine z12 ?_
 refine x_if rfl (fun h1 => ?_) (fun h1 => ?_)
 ·
  obtain ⟨-, rfl, hw⟩ := hv2.resolve_right (fun h => h1 h.1)
  refine z7 ?_
  exact end2 rfl rfl rfl rfl (.inl ⟨by unfold vlErr; rw [if_pos h1]; exact h1, by unfold vlErr; rw [if_pos h1], hw⟩)
 obtain ⟨rfl, hpl, hcl, q, cv, lv, fq, fv, rfl, hw⟩ := hv2.resolve_left (fun h => h.1 (by omega))
 have hvl : vlErr refs c (pgs l) = if ldErr c [] (pgs l) ≠ 0 then ldErr c [] (pgs l) else if (l.length : Int) < talN c 4 then 9 else 0 := by unfold vlErr; rw [if_neg (by omega), show (pgs l).length = l.length from List.length_map ..]
 refine z4 ?_
 refine x_mkm rfl rfl trivial hw rfl (fun w m26 hw => ?_)
 refine x_build (v := .agg (vtC q m26 (.slice none 0 0) 0).toArray) rfl rfl trivial rfl (fun w => by kernel_rfl) ?_
 refine x_box rfl rfl trivial rfl rfl hw rfl (fun w b28 hw => ?_)
 refine z6 ?_
 refine x_len rfl rfl trivial (by kernel_rfl) U_sl_api_Numbered rfl ?_
 refine z3 ?_
 have hw := row_nil hw 3 1
 have hw := hw.tail
 have hw := Sat.both_in (M := ([] : List PgV).map pgO) hw
 have hw := hw.b [blk b28 _ _, mapI _ _, both _, blk q _ _, row 3 _ _ _ _, row 4 _ _ _ _, blk fq _ _, row 232 _ _ _ _]
 refine x_loop (fun m e w => ∃ (k : Nat) (on : List (Int × PgV)), k ≤ l.length ∧ m = l.length - k ∧ e = [(10, .pointer (some ⟨b28, 0, none⟩)), (29, .slice la l.length lc), (30, .int .i64 l.length), (31, .int .i64 k)] ∧ (pgs on = (pgs l).take k ∧ (∀ x ∈ on, x.2.Sm) ∧ ldErr c [] (pgs l) = ldErr c ((((pgs l).take k).map (·.1)).reverse) ((pgs l).drop k)) ∧ Sat G (vtP b28 q m26 (.slice none 0 0) 0 (plN refs c cv lv fq) on (on.map (·.2)) (setQ fq fv (freeR c) L)) w)
  (m := l.length) (e₀ := [(10, .pointer (some ⟨b28, 0, none⟩)), (29, .slice la l.length lc), (30, .int .i64 l.length), (31, .int .i64 (0 : Nat))]) sB
  ⟨0, [], Nat.zero_le _, rfl, rfl, ⟨rfl, (fun x hx => by cases hx), rfl⟩, hw⟩ ?_
 rintro m e w ⟨k, on, hk, rfl, rfl, ⟨ho1, ho2, ho3⟩, hw⟩
 refine z5 ?_
 refine x_if rfl (fun h2 => ?_) (fun h2 => ?_)
 ·
  have hk' : k < l.length := by omega
  obtain ⟨x, hx⟩ : ∃ x, l[k]? = some x := ⟨_, List.getElem?_eq_getElem hk'⟩
  have hxo := hlo x (List.mem_of_getElem? hx)
  have hxr : (l.map numC)[k]? = some (numC x) := by rw [List.getElem?_map, hx]; rfl
  have hkeys : on.map (·.1) = ((pgs l).take k).map (·.1) := by rw [← ho1]; simp [pgs, List.map_map, Function.comp_def]
  rw [pgs_step hx] at ho3
  simp only [ldErr, List.mem_reverse, ← hkeys] at ho3
  obtain ⟨bb, oo, rfl⟩ := ((kl.of sF).at hw).nn (by rw [List.length_map]; omega)
  have hz0 : ∃ p0 : PgV, (klook (onKV on) x.1).getD (.agg pgZ.cells.toArray) = .agg p0.cells.toArray ∧ Ones p0.cells := by
   rw [klook_on]
   cases hf : onF on x.1 with
   | none => exact ⟨pgZ, rfl, by intro u hu; simp only [pgZ, PgV.cells, List.mem_cons, List.not_mem_nil, or_false] at hu; rcases hu with rfl | rfl | rfl | rfl | rfl <;> rfl⟩
   | some p0 =>
    have hm := onF_mem hf
    exact ⟨p0, rfl, ones_pg (stO_ok (S := on.map (·.2)) (List.mem_map.2 ⟨_, hm, rfl⟩) (ho2 _ hm) (.there (.there .here))) hw⟩
  obtain ⟨p0, hp0, hp1⟩ := hz0
  have hb0 : (klook (onKV on) x.1).isSome = decide (x.1 ∈ on.map (·.1)) := by
   rw [klook_on, Option.isSome_map]
   by_cases h : x.1 ∈ on.map (·.1)
   ·rw [decide_eq_true h]; exact (onF_isSome _ _).2 h
   rw [decide_eq_false h]
   cases h9 : (onF on x.1).isSome with
   | false => rfl
   | true => exact absurd ((onF_isSome _ _).1 h9) h
  refine z5 ?_
  refine x_idx rfl rfl trivial U_sl_api_Numbered sz_api_Numbered rfl rfl ⟨by omega, by omega⟩ ?_
  refine x_ld rfl rfl trivial rfl (Loads.many many_api_Numbered rfl (by rw [Int.toNat_natCast]; exact ((kl.of sF).at hw).at hxr)) ?_
  refine x_alloc rfl rfl trivial z_api_Numbered hw rfl (fun w b12 hw => ?_)
  refine x_stN (cs := numC x) (l' := numC x) rfl trivial rfl rfl many_api_Numbered rfl (by intro u hu; rcases List.mem_cons.1 hu with rfl | hu; rfl; exact ones_pg (hxo.of sF) hw u hu) hw pK (by simp [numC, PgV.cells]) rfl rfl (fun w hw => ?_)
  refine z3 ?_
  refine x_draw [0, 1, 2, 3, 4, 5, 6, 7] mixed (by kernel_rfl) ?_
  replace hw := hw.drawn (w.drawn + 1)
  refine z3 ?_
  refine lD one_p_pool_Pool hw ?_
  refine z1 ?_
  refine lD one_int hw ?_
  refine x_call rfl rfl trivial cal_pool_Pool_Count rfl (ct_pool_Pool_Count (p := plN refs c cv lv fq) (q := q) (hw.b [blk q _ _, row 3 _ _ _ _, row 4 _ _ _ _]) (show c.length ≤ 65536 by omega)) (by kernel_rfl) (fun w v41 hv => ?_)
  obtain ⟨rfl, hw⟩ := hv
  refine z2 ?_
  refine x_if rfl (fun h3 => ?_) (fun h3 => ?_)
  ·
   refine z6 ?_
   exact end2 rfl rfl rfl rfl (.inl (by
 have h3' : cntP c x.1 = 0 := h3
 rw [if_pos h3'] at ho3
 have e15 : vlErr refs c (pgs l) = 15 := by rw [hvl, ho3, if_pos (by decide)]
 exact ⟨by rw [e15]; decide, by rw [e15], (by repeat (first | exact hw | replace hw := hw.tail))⟩))
  have h3' : ¬ cntP c x.1 = 0 := h3
  rw [if_neg h3'] at ho3
  refine z3 ?_
  refine x_draw [0, 1, 2, 3, 4, 5, 6, 7, 8, 9, 10, 11, 12] mixed (by kernel_rfl) ?_
  replace hw := hw.drawn (w.drawn + 1)
  refine z3 ?_
  refine lD one_m_int_api_Page hw ?_
  refine z1 ?_
  refine lD one_int hw ?_
  refine x_lk2 (v0 := .agg p0.cells.toArray) (b0 := decide (x.1 ∈ on.map (·.1))) rfl rfl trivial U_m_int_api_Page U_int zv_api_Page rfl rfl hw pK hp0 hb0 ?_
  refine z3 ?_
  refine x_allocP rfl rfl trivial z_api_Page hw (fun w b13 hw q' hq => ?_) (fun w b13 hw => ?_)
  ·
   have hq := pend_mem (l := [6, 5, 3]) (by kernel_rfl) hq
   simp only [List.mem_cons, List.not_mem_nil, or_false] at hq
   rcases hq with rfl | rfl | rfl
   ·exact chk_lk2 rfl U_m_int_api_Page U_int zv_api_Page rfl rfl rfl hw pK hp0 hb0
   ·exact chk_ld rfl rfl rfl (Loads.blk1 one_int hw pK rfl)
   exact chk_ld rfl rfl rfl (Loads.blk1 one_m_int_api_Page hw pK rfl)
  refine x_stN (cs := p0.cells) (l' := p0.cells) rfl trivial rfl rfl many_api_Page rfl hp1 hw pK (by simp [PgV.cells]) rfl (by kernel_rfl) (fun w hw => ?_)
  refine z6 ?_
  refine x_if rfl (fun h4 => ?_) (fun h4 => ?_)
  ·
   refine z6 ?_
   exact end2 rfl rfl rfl rfl (.inl (by
 rw [if_pos h4] at ho3
 have e10 : vlErr refs c (pgs l) = 10 := by rw [hvl, ho3, if_pos (by decide)]
 exact ⟨by rw [e10]; decide, by rw [e10], (by repeat (first | exact hw | replace hw := hw.tail))⟩))
  rw [if_neg h4] at ho3
  refine z5 ?_
  refine x_ld rfl rfl trivial rfl (Loads.blkN (cs := x.2.cells) many_api_Page hw pK rfl rfl) ?_
  refine x_call rfl rfl trivial cal_page_Check rfl (ct_page_Check (p := x.2) hw (hxo.of sF)) rfl (fun w v56 hv => ?_)
  obtain ⟨rfl, hw⟩ := hv
  refine z7 ?_
  refine x_if rfl (fun h5 => ?_) (fun h5 => ?_)
  ·
   refine z7 ?_
   exact end2 rfl rfl rfl rfl (.inl (by
 rw [if_pos h5] at ho3
 have ek : vlErr refs c (pgs l) = checkP x.2.pg := by rw [hvl, ho3, if_pos h5]
 exact ⟨by rw [ek]; exact h5, by rw [ek], (by repeat (first | exact hw | replace hw := hw.tail))⟩))
  rw [if_neg h5] at ho3
  refine x_skip ?_
  refine x_draw [0, 1, 2, 3, 4, 5, 6, 7, 8, 9] mixed (by kernel_rfl) ?_
  replace hw := hw.drawn (w.drawn + 1)
  refine z3 ?_
  refine lD one_m_int_api_Page hw ?_
  refine z1 ?_
  refine lD one_int hw ?_
  refine z1 ?_
  refine x_ld rfl rfl trivial rfl (Loads.blkN (cs := x.2.cells) many_api_Page hw pK rfl rfl) ?_
  refine x_callP rfl rfl trivial cal_vault_copied rfl (ct_vault_copied (p := x.2) hw (hxo.of sF)) (fun w v68 hv q' hq => ?_) (fun w v68 hv => ?_)
  ·
   obtain ⟨p', rfl, hpe, hps, hw⟩ := hv
   have hq := pend_mem (l := [5, 3]) (by kernel_rfl) hq
   simp only [List.mem_cons, List.not_mem_nil, or_false] at hq
   rcases hq with rfl | rfl
   ·exact chk_ld rfl rfl rfl (Loads.blk1 one_int hw pK rfl)
   exact chk_ld rfl rfl rfl (Loads.blk1 one_m_int_api_Page hw pK rfl)
  obtain ⟨p', rfl, hpe, hps, hw⟩ := hv
  refine x_mu rfl trivial U_m_int_api_Page U_int rfl rfl rfl hw pK (by kernel_rfl) (fun w hw => ?_)
  refine z5 ?_
  rw [onKV_put h4] at hw
  have hw := Sat.both_snoc (hw.b [stO _, pgO p'])
  have hpx : (pgs l)[k]? = some (x.1, x.2.pg) := by unfold pgs; rw [List.getElem?_map, hx]; rfl
  have hw := (hw.b [blk b13 _ _, blk b12 _ _, blk b28 _ _, mapI _ _, both _, blk q _ _, row 3 _ _ _ _, row 4 _ _ _ _, blk fq _ _, row 232 _ _ _ _]).tail.tail
  refine ⟨l.length - (k + 1), by omega, [(10, _), (29, _), (30, _), (31, .int .i64 (k + 1 : Nat))], sB, k + 1, on ++ [(x.1, p')], by omega, rfl, rfl, ⟨?_, ?_, ?_⟩, ?_⟩
  ·rw [take_step hpx, ← ho1, ← hpe]; simp [pgs]
  ·intro y hy
   rcases List.mem_append.1 hy with hy | hy
   ·exact ho2 y hy
   simp at hy; subst hy; exact hps
  ·rw [take_step hpx, List.map_append, List.reverse_append, ← hkeys]; exact ho3
  show Sat G (blk b28 _ _ :: mapI _ _ :: both ((on ++ [(x.1, p')]).map (·.2) |>.map pgO) :: _) w
  have e : ((on ++ [(x.1, p')]).map (·.2)).map pgO = (on.map (·.2)).map pgO ++ [pgO p'] := by simp
  rw [e]; exact hw
 have hke : k = l.length := by omega
 subst hke
 rw [show (pgs l).drop l.length = [] from List.drop_eq_nil_of_le (by simp [pgs])] at ho3
 rw [List.take_of_length_le (by simp [pgs])] at ho1
 have hol : (onKV on).length = l.length := by
  have h := congrArg List.length ho1
  simpa [pgs, onKV] using h
 have hld : ldErr c [] (pgs l) = 0 := ho3
 rw [hld, if_neg (by decide)] at hvl
 refine z3 ?_
 refine x_draw [0, 1, 2, 3, 4, 5, 6, 7, 8, 9, 10] mixed (by kernel_rfl) ?_
 replace hw := hw.drawn (w.drawn + 1)
 refine z3 ?_
 refine lD one_m_int_api_Page hw ?_
 refine x_lenm rfl rfl trivial U_m_int_api_Page rfl hw pK ?_
 refine z3 ?_
 refine lD one_p_pool_Pool hw ?_
 refine x_call rfl rfl trivial cal_pool_Pool_Tally rfl (ct_pool_Pool_Tally (p := plN refs c cv lv fq) (q := q) (k := 4) (hw.b [blk q _ _, row 3 _ _ _ _, row 4 _ _ _ _])) (by kernel_rfl) (fun w v79 hv => ?_)
 obtain ⟨rfl, hw⟩ := hv
 refine z2 ?_
 refine x_if rfl (fun h6 => ?_) (fun h6 => ?_)
 ·
  refine z6 ?_
  exact end2 rfl rfl rfl rfl (.inl (by
 have h6' : ((onKV on).length : Int) < talN c 4 := h6
 rw [hol] at h6'
 rw [if_pos h6'] at hvl
 exact ⟨by rw [hvl]; decide, by rw [hvl], (by repeat (first | exact hw | replace hw := hw.tail))⟩))
 refine z8 ?_
 exact end2 rfl rfl rfl rfl (.inr (by
 have h6' : ¬ ((onKV on).length : Int) < talN c 4 := h6
 rw [hol] at h6'
 rw [if_neg h6'] at hvl
 have hz := hw.b [blk b28 _ _, mapI _ _, stO _, blk q _ _, row 3 _ _ _ _, row 4 _ _ _ _, blk fq _ _, row 232 _ _ _ _]
 exact ⟨hvl, b28, q, m26, cv, lv, fq, fv, on, rfl, ho1, ho2, hz⟩))
end
structure RvV where
 r : Int
 c : List Int
 cv : Value
 l : List Bool
 lv : Value
 p : List PgV
 pv : Value
 av : Value
 floor : Int
 hush : Bool
def RvV.cells (v : RvV) : List Value := [.int .i64 v.r, v.cv, v.lv, v.pv, v.av, .int .i64 v.floor, .bool v.hush]
abbrev rvP (q : Nat) (v : RvV) (L : List Assn) : List Assn := blk q v.cells 101 :: row 3 1 v.cv v.c.length (ints v.c) :: row 4 1 v.lv v.l.length (bls v.l) :: row 75 5 v.pv v.p.length (v.p.map PgV.cells).flatten :: L
theorem rv_form {q : Nat} {v : RvV} {G : Gh} {L : List Assn} {w : World} (hw : Sat G (rvP q v L) w) : ∃ ca cc la lc pa pc, ∀ M, rvP q v M = (blk q [.int .i64 v.r, .slice ca v.c.length cc, .slice la v.l.length lc, .slice pa v.p.length pc, v.av, .int .i64 v.floor, .bool v.hush] 101 :: row 3 1 (.slice ca v.c.length cc) v.c.length (ints v.c) :: row 4 1 (.slice la v.l.length lc) v.l.length (bls v.l) :: row 75 5 (.slice pa v.p.length pc) v.p.length (v.p.map PgV.cells).flatten :: M) := by
 obtain ⟨ca, cc, h1⟩ := row_form (hw.pick (A := row 3 1 v.cv _ _) (.there .here))
 obtain ⟨la, lc, h2⟩ := row_form (hw.pick (A := row 4 1 v.lv _ _) (.there (.there .here)))
 obtain ⟨pa, pc, h3⟩ := row_form (hw.pick (A := row 75 5 v.pv _ _) (.there (.there (.there .here))))
 exact ⟨ca, cc, la, lc, pa, pc, fun M => by unfold rvP; simp only [RvV.cells, h1, h2, h3]⟩
theorem pgs_z (l : List PgV) : ∀ r ∈ l.map PgV.cells, r.length = 5 := fun r hr => by obtain ⟨x, _, rfl⟩ := List.mem_map.1 hr; rfl
section
variable {G : Gh} {L R : List Assn} {w : World}
theorem ct_ref11_refsAre {r : Int} (hw : Sat G L w) : Calls Tryz.prog 112 #[.int .i64 r] w (Ret fun u w' => u = .bool (decide (2 ≤ r ∧ r < 65536)) ∧ Sat G L w') := by
 refine calls_of_x (args := [_]) Tryz.func112 rfl Tryz.ntmps112 rfl rfl ?_
 refine z9 ?_
 refine xl_and (l1 := [3, 4, 5]) (l2 := [6]) rfl (d := 8) (2 ≤ r ∧ r < 65536) rfl ?_ ?_
 ·
  refine xl_split (d := 5) rfl (fun h1 => ?_) (fun h1 => ?_)
  ·
   refine z4 ?_
   refine cQ ?_
   exact dC
  refine z4 ?_
  refine cQ ?_
  exact dC
 refine z3 ?_
 exact end1 rfl rfl rfl ⟨rfl, hw⟩
theorem ct_ref11_Vault_Is {q : Nat} {v : RvV} {n : Int} (hw : Sat G (rvP q v L) w) : Calls Tryz.prog 110 #[.pointer (some ⟨q, 0, none⟩), .int .i64 n] w (Ret fun u w' => u = .bool (decide (thereP v.c n)) ∧ Sat G (rvP q v L) w') := by
 obtain ⟨ca, cc, la, lc, pa, pc, he⟩ := rv_form hw
 rw [he] at hw
 refine calls_of_x (args := [_, _]) Tryz.func110 rfl Tryz.ntmps110 rfl rfl ?_
 refine z9 ?_
 refine xl_and (l1 := [3, 4, 5, 6, 7, 8, 9, 10]) (l2 := [11]) rfl (d := 15) (1 ≤ n ∧ n ≤ (v.c.length : Int)) rfl ?_ ?_
 ·
  refine xl_split (d := 7) rfl (fun h1 => ?_) (fun h1 => ?_)
  ·
   refine z2 ?_
   refine x_nc rfl rfl ⟨_, rfl, rfl⟩ rfl ?_
   refine z1 ?_
   refine lD one_sl_int hw ?_
   refine x_len rfl rfl ⟨_, rfl, rfl⟩ (by kernel_rfl) U_sl_int rfl ?_
   refine z3 ?_
   refine cQ ?_
   exact dC
  refine z9 ?_
  refine cQ ?_
  exact dC
 refine z3 ?_
 exact end1 rfl rfl rfl ⟨rfl, by rw [he]; exact hw⟩
theorem ct_ref11_Vault_Len {q : Nat} {v : RvV} (hw : Sat G (rvP q v L) w) : Calls Tryz.prog 29 #[.pointer (some ⟨q, 0, none⟩)] w (Ret fun u w' => u = .int .i64 v.c.length ∧ Sat G (rvP q v L) w') := by
 obtain ⟨ca, cc, la, lc, pa, pc, he⟩ := rv_form hw
 rw [he] at hw
 refine calls_of_x (args := [_]) Tryz.func29 rfl Tryz.ntmps29 rfl rfl ?_
 refine z9 ?_
 refine lD one_sl_int hw ?_
 refine z4 ?_
 exact end1 rfl rfl rfl ⟨rfl, by rw [he]; exact hw⟩
theorem ct_ref11_Vault_There {q : Nat} {v : RvV} {n : Int} (hw : Sat G (rvP q v L) w) (hl : v.c.length ≤ 65536) : Calls Tryz.prog 61 #[.pointer (some ⟨q, 0, none⟩), .int .i64 n] w (Ret fun u w' => u = .bool (decide (0 < cntP v.c n)) ∧ Sat G (rvP q v L) w') := by
 obtain ⟨ca, cc, la, lc, pa, pc, he⟩ := rv_form hw
 refine calls_of_x (args := [_, _]) Tryz.func61 rfl Tryz.ntmps61 rfl rfl ?_
 refine z8 ?_
 refine x_call rfl rfl trivial cal_ref11_Vault_Is rfl (ct_ref11_Vault_Is hw) rfl (fun w v7 hv => ?_)
 obtain ⟨rfl, hw⟩ := hv
 rw [he] at hw
 refine z1 ?_
 refine xl_split (d := 8) rfl (fun h1 => ?_) (fun h1 => ?_)
 ·
  have hcs : Knows (row 3 1 (.slice ca v.c.length cc) v.c.length (ints v.c) :: row 4 1 (.slice la v.l.length lc) v.l.length (bls v.l) :: row 75 5 (.slice pa v.p.length pc) v.p.length (v.p.map PgV.cells).flatten :: L) (SlV (.slice ca v.c.length cc) (ints v.c)) := rowI
  obtain ⟨bb, oo, rfl⟩ := ((hcs.of sF).at hw).nn (by rw [ints_length]; omega)
  have hcn : cntP v.c n = v.c.getD (n - 1).toNat 0 := by unfold cntP; rw [if_pos h1]
  refine z1 ?_
  refine x_nc rfl rfl ⟨_, rfl, rfl⟩ rfl ?_
  refine z1 ?_
  refine lD one_sl_int hw ?_
  refine z1 ?_
  refine x_subi rfl rfl ⟨_, rfl, rfl⟩ rfl rfl (by omega) ?_
  refine x_idx1 rfl rfl ⟨_, rfl, rfl⟩ U_sl_int sz_int rfl rfl ⟨by omega, by omega⟩ ?_
  refine x_ld rfl rfl ⟨_, rfl, rfl⟩ rfl (Loads.one one_int (((hcs.of sF).at hw).at (ints_at (by omega)))) ?_
  refine z5 ?_
  exact end1 rfl rfl rfl ⟨by rw [hcn], by rw [he]; exact hw⟩
 refine z13 ?_
 exact end1 rfl rfl rfl ⟨by
 have e : cntP v.c n = 0 := by unfold cntP; rw [if_neg h1]
 rw [e]; rfl, by rw [he]; exact hw⟩
theorem ct_ref11_Vault_Read {q : Nat} {v : RvV} {S : List PgV} {n : Int} (hw : Sat G (rvP q v (stO S :: L)) w) (hl : v.c.length ≤ 65536) (hpl : v.p.length = v.c.length)
  (hon : 0 < cntP v.c n → ∀ pg, v.p[(n - 1).toNat]? = some pg → pg ∈ S ∧ pg.Sm) : Calls Tryz.prog 111 #[.pointer (some ⟨q, 0, none⟩), .int .i64 n] w (Ret fun r w' =>
  (¬ 0 < cntP v.c n ∧ r = .tuple #[.agg pgZ.cells.toArray, .int .i64 15] ∧ Sat G (rvP q v (stO S :: L)) w') ∨
  (0 < cntP v.c n ∧ ∃ pg p', v.p[(n - 1).toNat]? = some pg ∧ r = .tuple #[.agg p'.cells.toArray, .int .i64 0] ∧ p'.pg = pg.pg ∧ p'.Sm ∧ Sat G (pgO p' :: rvP q v (stO S :: L)) w')) := by
 obtain ⟨ca, cc, la, lc, pa, pc, he⟩ := rv_form hw
 refine calls_of_x (args := [_, _]) Tryz.func111 rfl Tryz.ntmps111 rfl rfl ?_
 refine z2 ?_
 refine x_alloc rfl rfl trivial z_api_Page hw rfl (fun w b4 hw => ?_)
 refine z7 ?_
 refine x_call rfl rfl trivial cal_ref11_Vault_There rfl (ct_ref11_Vault_There (hw.b [blk q _ _, row 3 _ _ _ _, row 4 _ _ _ _, row 75 _ _ _ _]) hl) rfl (fun w v8 hv => ?_)
 obtain ⟨rfl, hw⟩ := hv
 rw [he] at hw
 refine x_notp rfl rfl trivial rfl ?_
 refine xl_nil ?_
 refine x_if rfl (fun h1 => ?_) (fun h1 => ?_)
 ·
  refine z2 ?_
  refine x_build (v := .agg pgZ.cells.toArray) rfl rfl trivial rfl (fun w => by kernel_rfl) ?_
  refine x_stN (cs := pgZ.cells) (l' := pgZ.cells) rfl trivial rfl rfl many_api_Page rfl (by intro u hu; simp only [pgZ, PgV.cells, List.mem_cons, List.not_mem_nil, or_false] at hu; rcases hu with rfl | rfl | rfl | rfl | rfl <;> rfl) hw pK (by simp [pgZ, PgV.cells]) rfl rfl (fun w hw => ?_)
  refine z3 ?_
  exact end2 rfl rfl ⟨_, rfl, (Loads.blkA many_api_Page hw pK rfl)⟩ rfl (.inl ⟨h1, rfl, by rw [he]; exact (hw.b [blk b4 _ _, blk q _ _, row 3 _ _ _ _, row 4 _ _ _ _, row 75 _ _ _ _]).tail⟩)
 have h1' : 0 < cntP v.c n := Decidable.not_not.1 h1
 have hth : thereP v.c n := by
  refine Decidable.byContradiction fun h => ?_
  unfold cntP at h1'; rw [if_neg h] at h1'; omega
 have hsl : Knows (row 75 5 (.slice pa v.p.length pc) v.p.length (v.p.map PgV.cells).flatten :: blk b4 pgZ.cells 75 :: stO S :: L) (SlT 5 (.slice pa v.p.length pc) (v.p.map PgV.cells)) := (SlT.row (by simp) (pgs_z v.p)).head _
 obtain ⟨bb, oo, rfl⟩ := ((hsl.of sF).at hw).nn (by rw [List.length_map]; omega)
 obtain ⟨pg, hpg⟩ : ∃ pg, v.p[(n - 1).toNat]? = some pg := ⟨_, List.getElem?_eq_getElem (by omega)⟩
 obtain ⟨hmem, hsm⟩ := hon h1' pg hpg
 refine z6 ?_
 refine lD one_sl_api_Page hw ?_
 refine z2 ?_
 refine x_idx rfl rfl trivial U_sl_api_Page sz_api_Page rfl rfl ⟨by omega, by omega⟩ ?_
 refine x_ld rfl rfl trivial rfl (Loads.many many_api_Page rfl (((hsl.of sF).at hw).at (by rw [List.getElem?_map, hpg]; rfl))) ?_
 refine x_call rfl rfl trivial cal_ref00_CopyPage rfl (ct_ref00_CopyPage (p := pg) hw (stO_ok hmem hsm pK)) rfl (fun w v19 hv => ?_)
 obtain ⟨p', rfl, hpe, hps, hw⟩ := hv
 refine x_stN (cs := p'.cells) (l' := p'.cells) rfl trivial rfl rfl many_api_Page rfl (ones_pg (pgParts_ok hps pK) hw) hw pK (by simp [PgV.cells]) rfl rfl (fun w hw => ?_)
 refine z3 ?_
 exact end2 rfl rfl ⟨_, rfl, (Loads.blkA many_api_Page hw pK rfl)⟩ rfl (.inr ⟨h1', pg, p', hpg, rfl, hpe, hps, by rw [he]; exact (hw.b [blk b4 _ _, pgO _, blk q _ _, row 3 _ _ _ _, row 4 _ _ _ _, row 75 _ _ _ _]).tail⟩)
end
def newRv (refs : Int) (k : Nat) (cv lv pv : Value) : RvV := ⟨refs, List.replicate k 0, cv, List.replicate k false, lv, List.replicate k pgZ, pv, .slice none 0 0, 0, false⟩
section
variable {G : Gh} {L R : List Assn} {w : World}
theorem ct_ref11_New {n refs : Int} (hw : Sat G L w) : Calls Tryz.prog 63 #[.int .i64 n, .int .i64 refs] w (Ret fun r w' => (¬ (1 ≤ n ∧ n ≤ 65536 ∧ 2 ≤ refs ∧ refs < 65536) ∧ r = .tuple #[.pointer none, .int .i64 1] ∧ Sat G L w') ∨
  ((1 ≤ n ∧ n ≤ 65536 ∧ 2 ≤ refs ∧ refs < 65536) ∧ ∃ q cv lv pv, r = .tuple #[.pointer (some ⟨q, 0, none⟩), .int .i64 0] ∧ Sat G (rvP q (newRv refs n.toNat cv lv pv) L) w')) := by
 refine calls_of_x (args := [_, _]) Tryz.func63 rfl Tryz.ntmps63 rfl rfl ?_
 refine z11 ?_
 refine xl_and (l1 := [3, 4, 5]) (l2 := [6, 7, 8, 9, 10]) rfl (d := 13) (n < 1 ∨ 65536 < n) rfl ?_ ?_
 ·
  refine xl_split (d := 10) rfl (fun h1 => ?_) (fun h1 => ?_)
  ·
   refine z4 ?_
   refine cQ ?_
   exact dC
  refine z4 ?_
  refine cQ ?_
  exact dC
 refine z1 ?_
 refine xl_andM (l1 := [7, 8, 9, 10]) (l2 := []) rfl (d := 18) (n < 1 ∨ 65536 < n ∨ ¬ (2 ≤ refs ∧ refs < 65536)) (fun w => Sat G (L) w) rfl ?_ ?_
 ·
  refine xl_split (d := 14) rfl (fun h2 => ?_) (fun h2 => ?_)
  ·
   refine z5 ?_
   refine ⟨hw, congrArg some (congrArg Value.bool ?_)⟩
   try rw [← decide_not]
   exact dC
  refine z1 ?_
  refine x_call rfl rfl ⟨_, rfl, rfl⟩ cal_ref11_refsAre rfl (ct_ref11_refsAre hw) rfl (fun w v16 hv => ?_)
  obtain ⟨rfl, hw⟩ := hv
  refine x_notp rfl rfl ⟨_, rfl, rfl⟩ rfl ?_
  refine z2 ?_
  refine ⟨hw, congrArg some (congrArg Value.bool ?_)⟩
  try rw [← decide_not]
  exact dC
 clear hw; intro w hw
 refine xl_nil ?_
 refine x_if rfl (fun h3 => ?_) (fun h3 => ?_)
 ·
  refine z6 ?_
  exact end2 rfl rfl rfl rfl (.inl ⟨by omega, rfl, hw⟩)
 refine z4 ?_
 refine x_build (v := .agg #[.int .i64 refs, .slice none 0 0, .slice none 0 0, .slice none 0 0, .slice none 0 0, .int .i64 0, .bool false]) rfl rfl trivial rfl (fun w => by kernel_rfl) ?_
 refine x_box rfl rfl trivial rfl rfl hw rfl (fun w b21 hw => ?_)
 refine z8 ?_
 have hw := row_nil (row_nil (row_nil hw 75 5) 4 1) 3 1
 have hw := hw.b [blk b21 _ _, row 3 _ _ _ _, row 4 _ _ _ _, row 75 _ _ _ _]
 refine x_loop (fun m e w => ∃ (k : Nat) (cv lv pv : Value), (k : Int) ≤ n ∧ m = n.toNat - k ∧ e = [(0, .int .i64 n), (6, .pointer (some ⟨b21, 0, none⟩)), (7, .int .i64 k)] ∧ Sat G (blk b21 [.int .i64 refs, cv, lv, pv, .slice none 0 0, .int .i64 0, .bool false] 101 :: row 3 1 cv k (ints (List.replicate k 0)) :: row 4 1 lv k (bls (List.replicate k false)) :: row 75 5 pv k ((List.replicate k pgZ).map PgV.cells).flatten :: L) w)
  (m := n.toNat) (e₀ := [(0, .int .i64 n), (6, .pointer (some ⟨b21, 0, none⟩)), (7, .int .i64 (0 : Nat))]) sB
  ⟨0, .slice none 0 0, .slice none 0 0, .slice none 0 0, by omega, rfl, rfl, hw⟩ ?_
 rintro m e w ⟨k, cv, lv, pv, hk, rfl, rfl, hw⟩
 refine z7 ?_
 refine x_if rfl (fun h4 => ?_) (fun h4 => ?_)
 ·
  refine z9 ?_
  refine lD one_sl_int hw ?_
  refine x_bs1 (cs := [.int .i64 0]) rfl rfl trivial U_sl_int sz_int zs_int (by decide) rfl rfl rfl hw rfl (fun w b32 hw => ?_)
  refine x_app (m := k) (k := 1) (news := [.int .i64 0]) rfl rfl trivial U_sl_int sz_int by_int zs_int rfl rfl hw pK (Rd.blk0 hw pK) rfl (by intro u hu; simp at hu; subst hu; rfl) (by simp only [maxLen]; omega) (by omega) rfl (fun w v33 hw => ?_)
  obtain ⟨a33, c33, rfl⟩ := row_form hw
  refine z2 ?_
  refine x_st1 (l' := [_, _, _, _, _, _, _]) rfl trivial rfl rfl one_sl_int rfl hw pK rfl rfl rfl (fun w hw => ?_)
  refine z7 ?_
  refine lD one_sl_bool hw ?_
  refine x_bs1 (cs := [.bool false]) rfl rfl trivial U_sl_bool sz_bool zs_bool (by decide) rfl rfl rfl hw rfl (fun w b41 hw => ?_)
  refine x_app (m := k) (k := 1) (news := [.bool false]) rfl rfl trivial U_sl_bool sz_bool by_bool zs_bool rfl rfl hw pK (Rd.blk0 hw pK) rfl (by intro u hu; simp at hu; subst hu; rfl) (by simp only [maxLen]; omega) (by omega) rfl (fun w v42 hw => ?_)
  obtain ⟨a42, c42, rfl⟩ := row_form hw
  refine z2 ?_
  refine x_st1 (l' := [_, _, _, _, _, _, _]) rfl trivial rfl rfl one_sl_bool rfl hw pK rfl rfl rfl (fun w hw => ?_)
  refine z6 ?_
  refine lD one_sl_api_Page hw ?_
  refine x_build (v := .agg pgZ.cells.toArray) rfl rfl trivial rfl (fun w => by kernel_rfl) ?_
  refine x_bs1 (cs := pgZ.cells) rfl rfl trivial U_sl_api_Page sz_api_Page zs_api_Page (by decide) rfl rfl rfl hw rfl (fun w b51 hw => ?_)
  refine x_app (m := k) (k := 1) (news := pgZ.cells) rfl rfl trivial U_sl_api_Page sz_api_Page by_api_Page zs_api_Page rfl rfl hw pK (Rd.blk0 hw pK) rfl (by intro u hu; simp only [pgZ, PgV.cells, List.mem_cons, List.not_mem_nil, or_false] at hu; rcases hu with rfl | rfl | rfl | rfl | rfl <;> rfl) (by simp only [maxLen]; omega) (by omega) rfl (fun w v52 hw => ?_)
  obtain ⟨a52, c52, rfl⟩ := row_form hw
  refine z2 ?_
  refine x_st1 (l' := [_, _, _, _, _, _, _]) rfl trivial rfl rfl one_sl_api_Page rfl hw pK rfl rfl rfl (fun w hw => ?_)
  refine z6 ?_
  have e1 : ints (List.replicate (k + 1) 0) = ints (List.replicate k 0) ++ [.int .i64 0] := by rw [List.replicate_succ']; simp [ints]
  have e2 : bls (List.replicate (k + 1) false) = bls (List.replicate k false) ++ [.bool false] := by rw [List.replicate_succ']; simp [bls]
  have e3 : ((List.replicate (k + 1) pgZ).map PgV.cells).flatten = ((List.replicate k pgZ).map PgV.cells).flatten ++ pgZ.cells := by rw [List.replicate_succ']; simp
  refine ⟨n.toNat - (k + 1), by omega, [(0, _), (6, _), (7, .int .i64 (k + 1 : Nat))], sB, k + 1, .slice a33 (k + 1) c33, .slice a42 (k + 1) c42, .slice a52 (k + 1) c52, by omega, rfl, rfl, ?_⟩
  rw [e1, e2, e3]
  exact (hw.b [blk b32 _ _, blk b41 _ _, blk b51 _ _, blk b21 _ _, row 3 _ _ _ _, row 4 _ _ _ _, row 75 _ _ _ _]).tail.tail.tail
 refine z8 ?_
 exact end2 rfl rfl rfl rfl (.inr (by
 have hke : n.toNat = k := by omega
 refine ⟨by omega, b21, cv, lv, pv, rfl, ?_⟩
 rw [hke]
 show Sat G (blk b21 _ _ :: row 3 1 _ (List.replicate k (0 : Int)).length _ :: row 4 1 _ (List.replicate k false).length _ :: row 75 5 _ (List.replicate k pgZ).length _ :: _) w
 rw [List.length_replicate, List.length_replicate, List.length_replicate]
 exact hw))
end
theorem ints_of {l : List Int} {k : Nat} {x : Int} (h : l[k]? = some x) : (ints l)[k]? = some (.int .i64 x) := by simp only [ints, List.getElem?_map, h]; rfl
section
variable {G : Gh} {L R : List Assn} {w : World}
theorem ct_ref00_CopyInts {v : Value} {l : List Int} (hw : Sat G L w) (ka : Knows L (SlV v (ints l))) (hl : l.length ≤ 1000000000) : Calls Tryz.prog 22 #[v] w (Ret fun r w' => Sat G (row 3 1 r l.length (ints l) :: L) w') := by
 obtain ⟨a, cap, rfl⟩ := (ka.at hw).form
 rw [ints_length]
 rw [ints_length] at ka
 refine calls_of_x (args := [_]) Tryz.func22 rfl Tryz.ntmps22 rfl rfl ?_
 refine z8 ?_
 refine x_mks rfl rfl trivial U_sl_int sz_int by_int z_int rfl rfl ⟨by omega, by omega⟩ (by omega) (by omega) hw rfl (fun w b7 hw => ?_)
 refine z8 ?_
 have hw : Sat G (row 3 1 (.slice (some ⟨b7, 0, none⟩) 0 l.length) 0 [] :: L) w := row_mk (xs := []) hw rfl (Nat.zero_le _) (by simp only [maxLen]; omega) (by simp)
 refine x_loop (fun m e w => ∃ (k : Nat) (u : Value), k ≤ l.length ∧ m = l.length - k ∧ e = [(0, .slice a l.length cap), (3, u), (4, .int .i64 k)] ∧ Sat G (row 3 1 u k (ints (l.take k)) :: L) w)
  (m := l.length) (e₀ := [(0, .slice a l.length cap), (3, .slice (some ⟨b7, 0, none⟩) 0 l.length), (4, .int .i64 (0 : Nat))]) sB
  ⟨0, _, Nat.zero_le _, rfl, rfl, hw⟩ ?_
 rintro m e w ⟨k, u, hk, rfl, rfl, hw⟩
 refine z8 ?_
 refine x_if rfl (fun h1 => ?_) (fun h1 => ?_)
 ·
  have hk' : k < l.length := by omega
  obtain ⟨x, hx⟩ : ∃ x, l[k]? = some x := ⟨_, List.getElem?_eq_getElem hk'⟩
  obtain ⟨bb, oo, rfl⟩ := ((ka.of sF).at hw).nn (by rw [ints_length]; omega)
  refine z7 ?_
  refine x_idx1 rfl rfl trivial U_sl_int sz_int rfl rfl ⟨by omega, by omega⟩ ?_
  refine x_ld rfl rfl trivial rfl (Loads.one one_int (((ka.of sF).at hw).at (by rw [Int.toNat_natCast]; exact ints_of hx))) ?_
  refine x_bs1 (cs := [.int .i64 x]) rfl rfl trivial U_sl_int sz_int zs_int (by decide) rfl rfl rfl hw rfl (fun w b19 hw => ?_)
  refine x_app (m := k) (k := 1) (news := [.int .i64 x]) rfl rfl trivial U_sl_int sz_int by_int zs_int rfl rfl hw pK (Rd.blk0 hw pK) rfl (by intro u hu; simp at hu; subst hu; rfl) (by simp only [maxLen]; omega) (by omega) rfl (fun w v20 hw => ?_)
  refine z7 ?_
  refine ⟨l.length - (k + 1), by omega, [(0, _), (3, _), (4, .int .i64 (k + 1 : Nat))], sB, k + 1, _, by omega, rfl, rfl, ?_⟩
  rw [take_step hx, ints_snoc]
  exact (hw.b [blk b19 _ _, row 3 _ _ _ _]).tail
 refine z7 ?_
 exact end1 rfl rfl rfl (by
 have hke : k = l.length := by omega
 subst hke
 rw [List.take_length] at hw
 exact hw)
theorem ct_slices_Equal_int_int {v u : Value} {l l' : List Int} (hw : Sat G L w) (ka : Knows L (SlV v (ints l))) (kb : Knows L (SlV u (ints l'))) (hl : l.length ≤ 1000000000) : Calls Tryz.prog 27 #[v, u] w (Ret fun r w' => r = .bool (decide (l = l')) ∧ Sat G L w') := by
 obtain ⟨a, cap, rfl⟩ := (ka.at hw).form
 obtain ⟨a', cap', rfl⟩ := (kb.at hw).form
 rw [ints_length, ints_length]
 rw [ints_length] at ka kb
 refine calls_of_x (args := [_, _]) Tryz.func27 rfl Tryz.ntmps27 rfl rfl ?_
 refine z13 ?_
 refine x_if rfl (fun h1 => ?_) (fun h1 => ?_)
 ·
  refine z5 ?_
  exact end1 rfl rfl rfl ⟨congrArg Value.bool (decide_eq_false (fun h => by subst h; omega)).symm, hw⟩
 refine z9 ?_
 refine x_loop (fun m e w => ∃ k : Nat, k ≤ l.length ∧ m = l.length - k ∧ e = [(0, .slice a l.length cap), (1, .slice a' l'.length cap'), (12, .int .i64 l.length), (13, .int .i64 k)] ∧ l.take k = l'.take k ∧ Sat G L w)
  (m := l.length) (e₀ := [(0, .slice a l.length cap), (1, .slice a' l'.length cap'), (12, .int .i64 l.length), (13, .int .i64 (0 : Nat))]) sB
  ⟨0, Nat.zero_le _, rfl, rfl, rfl, hw⟩ ?_
 rintro m e w ⟨k, hk, rfl, rfl, hE, hw⟩
 refine z5 ?_
 refine x_if rfl (fun h2 => ?_) (fun h2 => ?_)
 ·
  have hk' : k < l.length := by omega
  obtain ⟨x, hx⟩ : ∃ x, l[k]? = some x := ⟨_, List.getElem?_eq_getElem hk'⟩
  obtain ⟨y, hy⟩ : ∃ y, l'[k]? = some y := ⟨_, List.getElem?_eq_getElem (by omega)⟩
  obtain ⟨bb, oo, rfl⟩ := (ka.at hw).nn (by rw [ints_length]; omega)
  obtain ⟨b2, o2, rfl⟩ := (kb.at hw).nn (by rw [ints_length]; omega)
  refine z9 ?_
  refine x_draw [0, 1, 2, 3, 4, 5, 6, 7, 8] mixed (by kernel_rfl) ?_
  replace hw := hw.drawn (w.drawn + 1)
  refine z2 ?_
  refine x_idx1 rfl rfl trivial U_sl_int sz_int rfl rfl ⟨by omega, by omega⟩ ?_
  refine x_ld rfl rfl trivial rfl (Loads.one one_int ((ka.at hw).at (by rw [Int.toNat_natCast]; exact ints_of hx))) ?_
  refine z2 ?_
  refine x_idx1 rfl rfl trivial U_sl_int sz_int rfl rfl ⟨by omega, by omega⟩ ?_
  refine x_ld rfl rfl trivial rfl (Loads.one one_int ((kb.at hw).at (by rw [Int.toNat_natCast]; exact ints_of hy))) ?_
  refine z2 ?_
  refine x_if rfl (fun h3 => ?_) (fun h3 => ?_)
  ·
   refine z5 ?_
   exact end1 rfl rfl rfl ⟨congrArg Value.bool (decide_eq_false (fun h => by
 subst h
 rw [hx] at hy
 exact h3 (Option.some.inj hy))).symm, hw⟩
  refine z5 ?_
  exact ⟨l.length - (k + 1), by omega, [(0, _), (1, _), (12, _), (13, .int .i64 (k + 1 : Nat))], sB, k + 1, by omega, rfl, rfl, by rw [take_step hx, take_step hy, hE, Decidable.not_not.1 h3], hw⟩
 refine z6 ?_
 exact end1 rfl rfl rfl ⟨congrArg Value.bool (decide_eq_true (by
 rw [List.take_of_length_le (by omega), List.take_of_length_le (by omega)] at hE
 exact hE)).symm, hw⟩
end
structure Tr where
 root : Int
 height : Int
 items : Int
deriving DecidableEq
def treeC (t : Tr) : List Value := [.int .i64 t.root, .int .i64 t.height, .int .i64 t.items]
def rootC (x : Int × Tr) : List Value := [.int .i64 x.1, .int .i64 x.2.root, .int .i64 x.2.height, .int .i64 x.2.items]
def rootsF : Nat → List Tr → List (Int × Tr)
 | _, [] => []
 | i, t :: l => ((i : Int) + 1, t) :: rootsF (i + 1) l
theorem rootsF_snoc : ∀ (l : List Tr) (i : Nat) (t : Tr), rootsF i (l ++ [t]) = rootsF i l ++ [(((i + l.length : Nat) : Int) + 1, t)]
 | [], i, t => by simp [rootsF]
 | x :: l, i, t => by
  simp only [List.cons_append, rootsF, rootsF_snoc l, List.length_cons]
  rw [show i + 1 + l.length = i + (l.length + 1) by omega]
def rootsL (l : List Tr) : List (Int × Tr) := rootsF 0 l
theorem rootsL_step {l : List Tr} {k : Nat} {t : Tr} (h : l[k]? = some t) : rootsL (l.take (k + 1)) = rootsL (l.take k) ++ [((k : Int) + 1, t)] := by
 have hk := (List.getElem?_eq_some_iff.1 h).1
 rw [take_step h, rootsL, rootsF_snoc, List.length_take, Nat.min_eq_left (by omega), Nat.zero_add]
 rfl
section
variable {G : Gh} {L R : List Assn} {w : World}
theorem ct_law22_roots {v : Value} {l : List Tr} (hw : Sat G L w) (ka : Knows L (SlT 3 v (l.map treeC))) (hl : l.length ≤ 1000000000) : Calls Tryz.prog 7 #[v] w (Ret fun r w' => Sat G (row 69 4 r l.length ((rootsL l).map rootC).flatten :: L) w') := by
 obtain ⟨a, cap, h1, -, -⟩ := (ka.at hw).form
 rw [List.length_map] at h1
 subst h1
 refine calls_of_x (args := [_]) Tryz.func7 rfl Tryz.ntmps7 rfl rfl ?_
 refine z14 ?_
 have hw := row_nil hw 69 4
 refine x_loop (fun m e w => ∃ (k : Nat) (u : Value), k ≤ l.length ∧ m = l.length - k ∧ e = [(0, .slice a l.length cap), (3, u), (4, .int .i64 k)] ∧ Sat G (row 69 4 u k ((rootsL (l.take k)).map rootC).flatten :: L) w)
  (m := l.length) (e₀ := [(0, .slice a l.length cap), (3, .slice none 0 0), (4, .int .i64 (0 : Nat))]) sB
  ⟨0, _, Nat.zero_le _, rfl, rfl, hw⟩ ?_
 rintro m e w ⟨k, u, hk, rfl, rfl, hw⟩
 refine z5 ?_
 refine x_len rfl rfl trivial (by kernel_rfl) U_sl_api_Tree rfl ?_
 refine z2 ?_
 refine x_if rfl (fun h1 => ?_) (fun h1 => ?_)
 ·
  have hk' : k < l.length := by omega
  obtain ⟨x, hx⟩ : ∃ x, l[k]? = some x := ⟨_, List.getElem?_eq_getElem hk'⟩
  have hxr : (l.map treeC)[k]? = some (treeC x) := by rw [List.getElem?_map, hx]; rfl
  obtain ⟨bb, oo, rfl⟩ := ((ka.of sF).at hw).nn (by rw [List.length_map]; omega)
  refine z9 ?_
  refine x_idx rfl rfl trivial U_sl_api_Tree sz_api_Tree rfl rfl ⟨by omega, by omega⟩ ?_
  refine x_ld rfl rfl trivial rfl (Loads.many many_api_Tree rfl (by rw [Int.toNat_natCast]; exact ((ka.of sF).at hw).at hxr)) ?_
  refine x_build (v := .agg (rootC ((k : Int) + 1, x)).toArray) rfl rfl trivial rfl (fun w => by kernel_rfl) ?_
  refine x_bs1 (cs := rootC ((k : Int) + 1, x)) rfl rfl trivial U_sl_api_Root sz_api_Root zs_api_Root (by decide) rfl rfl rfl hw rfl (fun w b19 hw => ?_)
  refine x_app (m := k) (k := 1) (news := rootC ((k : Int) + 1, x)) rfl rfl trivial U_sl_api_Root sz_api_Root by_api_Root zs_api_Root rfl rfl hw pK (Rd.blk0 hw pK) rfl (by intro u hu; simp [rootC] at hu; rcases hu with rfl | rfl | rfl | rfl <;> rfl) (by simp only [maxLen]; omega) (by omega) rfl (fun w v20 hw => ?_)
  refine z7 ?_
  have e1 : ((rootsL (l.take (k + 1))).map rootC).flatten = ((rootsL (l.take k)).map rootC).flatten ++ rootC ((k : Int) + 1, x) := by rw [rootsL_step hx]; simp
  refine ⟨l.length - (k + 1), by omega, [(0, _), (3, _), (4, .int .i64 (k + 1 : Nat))], sB, k + 1, _, by omega, rfl, rfl, ?_⟩
  rw [e1]
  exact (hw.b [blk b19 _ _, row 69 _ _ _ _]).tail
 refine z7 ?_
 exact end1 rfl rfl rfl (by
 have hke : k = l.length := by omega
 subst hke
 rw [List.take_length] at hw
 exact hw)
end
theorem map3 {α β : Type} {f : α → β} {l : List α} {a b c : β} (h : l.map f = [a, b, c]) : ∃ x y z, l = [x, y, z] ∧ f x = a ∧ f y = b ∧ f z = c := by
 match l, h with
 | [x, y, z], h => simp at h; exact ⟨x, y, z, rfl, h.1, h.2.1, h.2.2⟩
theorem map2 {α β : Type} {f : α → β} {l : List α} {a b : β} (h : l.map f = [a, b]) : ∃ x y, l = [x, y] ∧ f x = a ∧ f y = b := by
 match l, h with
 | [x, y], h => simp at h; exact ⟨x, y, rfl, h.1, h.2⟩
theorem run_eq_tree (d : Nat) (w : World) (a b : Tr) : (Op.equalIn (d + 2) 62 (.agg (treeC a).toArray) (.agg (treeC b).toArray)).run Tryz.prog w = .ok (decide (a.root = b.root ∧ a.height = b.height ∧ a.items = b.items)) w := by
 have hf : ((Tryz.prog.fieldsOf 62).toList.map fun f => (f.name != "_", f.type, f.offset)) = [(true, 3, 0), (true, 3, 1), (true, 3, 2)] := by kernel_rfl
 obtain ⟨f1, f2, f3, h, h1, h2, h3⟩ := map3 hf
 have hu : Tryz.prog.underlying 3 = some (.int .i64) := U_int
 have hi : (Tryz.prog.info? 3).map (·.size) = some 1 := sz_int
 simp only [Prod.mk.injEq, bne_iff_ne, ne_eq] at h1 h2 h3
 have hp : ∀ (xs : Array Value) (o : Nat) (v : Value) (w : World), xs[o]? = some v → (part 3 xs o).run Tryz.prog w = .ok v w := by
  intro xs o v w hv
  exact run_part_plain w (by kernel_rfl) hv
 rw [run_equalIn_agg _ _ _ _ _ (by kernel_rfl) (by kernel_rfl), h]
 simp [Op.eqFields, h1, h2, h3, hp, treeC, run_equalIn_int _ _ _ _ _ _ _ hu]
 by_cases e1 : a.root = b.root <;> by_cases e2 : a.height = b.height <;> by_cases e3 : a.items = b.items <;> simp [e1, e2, e3]
theorem run_part_tree (x : Int × Tr) (w : World) : (part 62 (rootC x).toArray 1).run Tryz.prog w = .ok (.agg (treeC x.2).toArray) w := by
 obtain ⟨h1, h2, i, hi, hs⟩ := manyB_spec many_api_Tree
 unfold part
 rw [Sem.run_bind, run_isAgg h2 h1]
 simp [sizeOf, typeInfo, hi, hs, rootC, treeC]
theorem run_eq_root (d : Nat) (w : World) (a b : Int × Tr) : (Op.equalIn (d + 3) 69 (.agg (rootC a).toArray) (.agg (rootC b).toArray)).run Tryz.prog w = .ok (decide (a = b)) w := by
 have hf : ((Tryz.prog.fieldsOf 69).toList.map fun f => (f.name != "_", f.type, f.offset)) = [(true, 3, 0), (true, 62, 1)] := by kernel_rfl
 obtain ⟨f1, f2, h, h1, h2⟩ := map2 hf
 have hu : Tryz.prog.underlying 3 = some (.int .i64) := U_int
 simp only [Prod.mk.injEq, bne_iff_ne, ne_eq] at h1 h2
 have hp : ∀ (x : Int × Tr) (w : World), (part 3 (rootC x).toArray 0).run Tryz.prog w = .ok (.int .i64 x.1) w := fun x w => run_part_plain w (by kernel_rfl) rfl
 rw [run_equalIn_agg _ _ _ _ _ (by kernel_rfl) (by kernel_rfl), h]
 simp [Op.eqFields, h1, h2, hp, run_part_tree, run_equalIn_int _ _ _ _ _ _ _ hu, run_eq_tree]
 obtain ⟨i, r, s, t⟩ := a
 obtain ⟨j, r', s', t'⟩ := b
 by_cases e1 : i = j <;> simp [e1]
 by_cases e2 : r = r' <;> by_cases e3 : s = s' <;> by_cases e4 : t = t' <;> simp [e2, e3, e4]
section
variable {G : Gh} {L R : List Assn} {w : World}
theorem ct_ref00_EqRoots {v u : Value} {l l' : List (Int × Tr)} (hw : Sat G L w) (ka : Knows L (SlT 4 v (l.map rootC))) (kb : Knows L (SlT 4 u (l'.map rootC))) (hl : l.length ≤ 1000000000) : Calls Tryz.prog 14 #[v, u] w (Ret fun r w' => r = .bool (decide (l = l')) ∧ Sat G L w') := by
 obtain ⟨a, cap, h1, -, -⟩ := (ka.at hw).form
 obtain ⟨a', cap', h2, -, -⟩ := (kb.at hw).form
 rw [List.length_map] at h1 h2
 subst h1
 subst h2
 refine calls_of_x (args := [_, _]) Tryz.func14 rfl Tryz.ntmps14 rfl rfl ?_
 refine z8 ?_
 refine x_len rfl rfl trivial (by kernel_rfl) U_sl_api_Root rfl ?_
 refine z1 ?_
 refine x_len rfl rfl trivial (by kernel_rfl) U_sl_api_Root rfl ?_
 refine z2 ?_
 refine x_if rfl (fun h1 => ?_) (fun h1 => ?_)
 ·
  refine z5 ?_
  exact end1 rfl rfl rfl ⟨congrArg Value.bool (decide_eq_false (fun h => by subst h; omega)).symm, hw⟩
 refine z7 ?_
 refine x_loop (fun m e w => ∃ k : Nat, k ≤ l.length ∧ m = l.length - k ∧ e = [(0, .slice a l.length cap), (1, .slice a' l'.length cap'), (5, .int .i64 k)] ∧ l.take k = l'.take k ∧ Sat G L w)
  (m := l.length) (e₀ := [(0, .slice a l.length cap), (1, .slice a' l'.length cap'), (5, .int .i64 (0 : Nat))]) sB
  ⟨0, Nat.zero_le _, rfl, rfl, rfl, hw⟩ ?_
 rintro m e w ⟨k, hk, rfl, rfl, hE, hw⟩
 refine z5 ?_
 refine x_len rfl rfl trivial (by kernel_rfl) U_sl_api_Root rfl ?_
 refine z2 ?_
 refine x_if rfl (fun h2 => ?_) (fun h2 => ?_)
 ·
  have hk' : k < l.length := by omega
  obtain ⟨x, hx⟩ : ∃ x, l[k]? = some x := ⟨_, List.getElem?_eq_getElem hk'⟩
  obtain ⟨y, hy⟩ : ∃ y, l'[k]? = some y := ⟨_, List.getElem?_eq_getElem (by omega)⟩
  obtain ⟨bb, oo, rfl⟩ := (ka.at hw).nn (by rw [List.length_map]; omega)
  obtain ⟨b2, o2, rfl⟩ := (kb.at hw).nn (by rw [List.length_map]; omega)
  refine z4 ?_
  refine x_draw [0, 1, 2, 3, 4, 5, 6, 7, 8] mixed (by kernel_rfl) ?_
  replace hw := hw.drawn (w.drawn + 1)
  refine z2 ?_
  refine x_idx rfl rfl trivial U_sl_api_Root sz_api_Root rfl rfl ⟨by omega, by omega⟩ ?_
  refine x_ld rfl rfl trivial rfl (Loads.many many_api_Root rfl (by rw [Int.toNat_natCast]; exact (ka.at hw).at (by rw [List.getElem?_map, hx]; rfl))) ?_
  refine z2 ?_
  refine x_idx rfl rfl trivial U_sl_api_Root sz_api_Root rfl rfl ⟨by omega, by omega⟩ ?_
  refine x_ld rfl rfl trivial rfl (Loads.many many_api_Root rfl (by rw [Int.toNat_natCast]; exact (kb.at hw).at (by rw [List.getElem?_map, hy]; rfl))) ?_
  refine x_bin (v := .bool (decide (x ≠ y))) rfl rfl trivial (by kernel_rfl) rfl rfl (fun w' => by
    rw [Sem.run_bind, run_eqGuard_agg w' _ _ _ _ _ _ (by kernel_rfl), Result.andThen_ok, run_neq_struct, run_eq_root 9997]
    by_cases h : x = y <;> simp [h]) ?_
  refine xl_nil ?_
  refine x_if rfl (fun h3 => ?_) (fun h3 => ?_)
  ·
   refine z5 ?_
   exact end1 rfl rfl rfl ⟨congrArg Value.bool (decide_eq_false (fun h => by
 subst h
 rw [hx] at hy
 exact h3 (Option.some.inj hy))).symm, hw⟩
  refine z6 ?_
  exact ⟨l.length - (k + 1), by omega, [(0, _), (1, _), (5, .int .i64 (k + 1 : Nat))], sB, k + 1, by omega, rfl, rfl, by rw [take_step hx, take_step hy, hE, Decidable.not_not.1 h3], hw⟩
 refine z6 ?_
 exact end1 rfl rfl rfl ⟨congrArg Value.bool (decide_eq_true (by
 rw [List.take_of_length_le (by omega), List.take_of_length_le (by omega)] at hE
 exact hE)).symm, hw⟩
end
structure Rp where
 trees : Int
 pages : Int
 leaves : Int
 index : Int
 blobs : Int
 items : Int
 bytes : Int
 bad : List Int
deriving DecidableEq
structure RpV where
 r : Rp
 bv : Value
def RpV.cells (a : RpV) : List Value := [.int .i64 a.r.trees, .int .i64 a.r.pages, .int .i64 a.r.leaves, .int .i64 a.r.index, .int .i64 a.r.blobs, .int .i64 a.r.items, .int .i64 a.r.bytes, a.bv]
structure RpV.Ok (L : List Assn) (a : RpV) : Prop where
 bad : Knows L (SlV a.bv (ints a.r.bad))
 len : a.r.bad.length ≤ 1000000000
theorem ints_get {l : List Int} {k : Nat} (h : k < l.length) : (ints l)[(k : Int).toNat]? = some (.int .i64 (l.getD k 0)) := by simp [ints, h]
theorem RpV.Ok.of {L L' : List Assn} {a : RpV} (h : a.Ok L) (s : Suf L L') : a.Ok L' := ⟨h.bad.of s, h.len⟩
theorem rp_eq (a b : Rp) : a = b ↔ (a.trees = b.trees ∧ a.pages = b.pages ∧ a.leaves = b.leaves ∧ a.index = b.index ∧ a.blobs = b.blobs ∧ a.items = b.items ∧ a.bytes = b.bytes) ∧ a.bad = b.bad := by
 obtain ⟨a1, a2, a3, a4, a5, a6, a7, a8⟩ := a
 obtain ⟨b1, b2, b3, b4, b5, b6, b7, b8⟩ := b
 simp only [Rp.mk.injEq, and_assoc]
section
variable {G : Gh} {L R : List Assn} {w : World}
theorem ct_ref00_EqInts {v v' : Value} {l l' : List Int} (hw : Sat G L w) (ka : Knows L (SlV v (ints l))) (kb : Knows L (SlV v' (ints l'))) (hl : l.length ≤ 140737488355328) (hl' : l'.length ≤ 140737488355328) :
  Calls Tryz.prog 13 #[v, v'] w (Ret fun r w' => r = .bool (decide (l = l')) ∧ Sat G L w') := by
 obtain ⟨a, cap, rfl⟩ := ((ka.of sF).at hw).form
 obtain ⟨a', cap', rfl⟩ := ((kb.of sF).at hw).form
 simp only [ints_length] at ka kb ⊢
 refine calls_of_x (args := [_, _]) Tryz.func13 rfl Tryz.ntmps13 rfl rfl ?_
 refine z13 ?_
 refine x_if rfl (fun h1 => ?_) (fun h1 => ?_)
 ·
  have hne : ¬ l = l' := fun h => by subst h; omega
  refine z5 ?_
  exact end1 rfl rfl rfl ⟨by simp [hne], hw⟩
 have hll : l.length = l'.length := by omega
 refine z7 ?_
 refine x_loop (fun m e w => ∃ k : Nat, k ≤ l.length ∧ m = l.length - k ∧ e = [(0, .slice a l.length cap), (1, .slice a' l'.length cap'), (5, .int .i64 k)] ∧ (∀ j, j < k → l.getD j 0 = l'.getD j 0) ∧ Sat G L w)
  (m := l.length) (e₀ := [(0, .slice a l.length cap), (1, .slice a' l'.length cap'), (5, .int .i64 (0 : Nat))]) sB
  ⟨0, Nat.zero_le _, rfl, rfl, (fun j h => by omega), hw⟩ ?_
 rintro m e w ⟨k, hk, rfl, rfl, hci, hw⟩
 refine z8 ?_
 refine x_if rfl (fun h2 => ?_) (fun h2 => ?_)
 ·
  have hk' : k < l.length := by omega
  obtain ⟨b, o, rfl⟩ := ((ka.of sF).at hw).nn (by rw [ints_length]; omega)
  obtain ⟨b', o', rfl⟩ := ((kb.of sF).at hw).nn (by rw [ints_length]; omega)
  refine z4 ?_
  refine x_draw [0, 1, 2, 3, 4, 5, 6, 7, 8] mixed (by kernel_rfl) ?_
  replace hw := hw.drawn (w.drawn + 1)
  refine z2 ?_
  refine x_idx1 rfl rfl trivial U_sl_int sz_int rfl rfl ⟨by omega, by omega⟩ ?_
  refine x_ld rfl rfl trivial rfl (Loads.one one_int (((ka.of sF).at hw).at (ints_get hk'))) ?_
  refine z2 ?_
  refine x_idx1 rfl rfl trivial U_sl_int sz_int rfl rfl ⟨by omega, by omega⟩ ?_
  refine x_ld rfl rfl trivial rfl (Loads.one one_int (((kb.of sF).at hw).at (ints_get (by omega : k < l'.length)))) ?_
  refine z2 ?_
  refine x_if rfl (fun h3 => ?_) (fun h3 => ?_)
  ·
   have hne : ¬ l = l' := fun h => h3 (by rw [h])
   refine z5 ?_
   exact end1 rfl rfl rfl ⟨by simp [hne], hw⟩
  refine z6 ?_
  refine ⟨l.length - (k + 1), by omega, [(0, _), (1, _), (5, .int .i64 (k + 1 : Nat))], sB, k + 1, by omega, rfl, rfl, fun j hj => ?_, hw⟩
  by_cases hjk : j = k
  ·subst hjk; exact Decidable.not_not.1 h3
  exact hci j (by omega)
 refine z6 ?_
 exact end1 rfl rfl rfl (by
 have hkk : k = l.length := by omega
 have he : l = l' := by
  apply List.ext_getElem hll
  intro j h1 h2
  have := hci j (by omega)
  simpa [h1, h2] using this
 exact ⟨by simp [he], hw⟩)
theorem ct_ref00_EqReport {a b : RpV} (hw : Sat G L w) (ha : a.Ok L) (hb : b.Ok L) : Calls Tryz.prog 34 #[.agg a.cells.toArray, .agg b.cells.toArray] w (Ret fun u w' => u = .bool (decide (a.r = b.r)) ∧ Sat G L w') := by
 have hab := ha.bad
 have hbb := hb.bad
 have hal := ha.len
 have hbl := hb.len
 refine calls_of_x (args := [_, _]) Tryz.func34 rfl Tryz.ntmps34 rfl rfl ?_
 refine z2 ?_
 refine x_box rfl rfl trivial rfl rfl hw rfl (fun w b2 hw => ?_)
 refine x_box rfl rfl trivial rfl rfl hw rfl (fun w b3 hw => ?_)
 refine z5 ?_
 refine lD one_int hw ?_
 refine z1 ?_
 refine lD one_int hw ?_
 refine z2 ?_
 refine xl_and (l1 := [6, 7, 8, 9, 10, 11]) (l2 := [12, 13, 14, 15, 16, 17, 18, 19, 20, 21, 22, 23, 24, 25, 26, 27, 28, 29, 30, 31, 32, 33, 34, 35, 36, 37, 38, 39, 40, 41, 42, 43, 44, 45, 46, 47, 48, 49, 50, 51, 52, 53, 54]) rfl (d := 16) (a.r.trees = b.r.trees ∧ a.r.pages = b.r.pages) rfl ?_ ?_
 ·
  refine xl_split (d := 10) rfl (fun h1 => ?_) (fun h1 => ?_)
  ·
   refine z1 ?_
   refine lD one_int hw ?_
   refine z1 ?_
   refine lD one_int hw ?_
   refine z3 ?_
   refine cQ ?_
   exact dC
  refine z7 ?_
  refine cQ ?_
  exact dC
 refine z1 ?_
 refine xl_and (l1 := [13, 14, 15, 16, 17, 18]) (l2 := [19, 20, 21, 22, 23, 24, 25, 26, 27, 28, 29, 30, 31, 32, 33, 34, 35, 36, 37, 38, 39, 40, 41, 42, 43, 44, 45, 46, 47, 48, 49, 50, 51, 52, 53, 54]) rfl (d := 23) (a.r.trees = b.r.trees ∧ a.r.pages = b.r.pages ∧ a.r.leaves = b.r.leaves) rfl ?_ ?_
 ·
  refine xl_split (d := 17) rfl (fun h2 => ?_) (fun h2 => ?_)
  ·
   refine z1 ?_
   refine lD one_int hw ?_
   refine z1 ?_
   refine lD one_int hw ?_
   refine z3 ?_
   refine cQ ?_
   exact dC
  refine z7 ?_
  refine cQ ?_
  exact dC
 refine z1 ?_
 refine xl_and (l1 := [20, 21, 22, 23, 24, 25]) (l2 := [26, 27, 28, 29, 30, 31, 32, 33, 34, 35, 36, 37, 38, 39, 40, 41, 42, 43, 44, 45, 46, 47, 48, 49, 50, 51, 52, 53, 54]) rfl (d := 30) (a.r.trees = b.r.trees ∧ a.r.pages = b.r.pages ∧ a.r.leaves = b.r.leaves ∧ a.r.index = b.r.index) rfl ?_ ?_
 ·
  refine xl_split (d := 24) rfl (fun h3 => ?_) (fun h3 => ?_)
  ·
   refine z1 ?_
   refine lD one_int hw ?_
   refine z1 ?_
   refine lD one_int hw ?_
   refine z3 ?_
   refine cQ ?_
   exact dC
  refine z7 ?_
  refine cQ ?_
  exact dC
 refine z1 ?_
 refine xl_and (l1 := [27, 28, 29, 30, 31, 32]) (l2 := [33, 34, 35, 36, 37, 38, 39, 40, 41, 42, 43, 44, 45, 46, 47, 48, 49, 50, 51, 52, 53, 54]) rfl (d := 37) (a.r.trees = b.r.trees ∧ a.r.pages = b.r.pages ∧ a.r.leaves = b.r.leaves ∧ a.r.index = b.r.index ∧ a.r.blobs = b.r.blobs) rfl ?_ ?_
 ·
  refine xl_split (d := 31) rfl (fun h4 => ?_) (fun h4 => ?_)
  ·
   refine z1 ?_
   refine lD one_int hw ?_
   refine z1 ?_
   refine lD one_int hw ?_
   refine z3 ?_
   refine cQ ?_
   exact dC
  refine z7 ?_
  refine cQ ?_
  exact dC
 refine z1 ?_
 refine xl_and (l1 := [34, 35, 36, 37, 38, 39]) (l2 := [40, 41, 42, 43, 44, 45, 46, 47, 48, 49, 50, 51, 52, 53, 54]) rfl (d := 44) (a.r.trees = b.r.trees ∧ a.r.pages = b.r.pages ∧ a.r.leaves = b.r.leaves ∧ a.r.index = b.r.index ∧ a.r.blobs = b.r.blobs ∧ a.r.items = b.r.items) rfl ?_ ?_
 ·
  refine xl_split (d := 38) rfl (fun h5 => ?_) (fun h5 => ?_)
  ·
   refine z1 ?_
   refine lD one_int hw ?_
   refine z1 ?_
   refine lD one_int hw ?_
   refine z3 ?_
   refine cQ ?_
   exact dC
  refine z7 ?_
  refine cQ ?_
  exact dC
 refine z1 ?_
 refine xl_and (l1 := [41, 42, 43, 44, 45, 46]) (l2 := [47, 48, 49, 50, 51, 52, 53, 54]) rfl (d := 51) (a.r.trees = b.r.trees ∧ a.r.pages = b.r.pages ∧ a.r.leaves = b.r.leaves ∧ a.r.index = b.r.index ∧ a.r.blobs = b.r.blobs ∧ a.r.items = b.r.items ∧ a.r.bytes = b.r.bytes) rfl ?_ ?_
 ·
  refine xl_split (d := 45) rfl (fun h6 => ?_) (fun h6 => ?_)
  ·
   refine z1 ?_
   refine lD one_int hw ?_
   refine z1 ?_
   refine lD one_int hw ?_
   refine z3 ?_
   refine cQ ?_
   exact dC
  refine z7 ?_
  refine cQ ?_
  exact dC
 refine z1 ?_
 refine xl_split (d := 52) rfl (fun h7 => ?_) (fun h7 => ?_)
 ·
  refine z1 ?_
  refine lD one_sl_int hw ?_
  refine z1 ?_
  refine lD one_sl_int hw ?_
  refine x_call rfl rfl ⟨_, rfl, rfl⟩ cal_ref00_EqInts rfl (ct_ref00_EqInts hw (hab.of sF) (hbb.of sF) (by omega) (by omega)) rfl (fun w v57 hv => ?_)
  obtain ⟨rfl, hw⟩ := hv
  refine z4 ?_
  exact end1 rfl rfl rfl ⟨congrArg Value.bool (decide_eq_decide.2 ((rp_eq a.r b.r).trans (and_iff_right h7)).symm), hw.tail.tail⟩
 refine z9 ?_
 exact end1 rfl rfl rfl ⟨congrArg Value.bool (decide_eq_false (fun h => h7 ((rp_eq a.r b.r).1 h).1)).symm, hw.tail.tail⟩
theorem ct_law22_sameReport {a b : RpV} (hw : Sat G L w) (ha : a.Ok L) (hb : b.Ok L) : Calls Tryz.prog 12 #[.agg a.cells.toArray, .agg b.cells.toArray] w (Ret fun u w' => u = .bool (decide (a.r = b.r)) ∧ Sat G L w') := by
 refine calls_of_x (args := [_, _]) Tryz.func12 rfl Tryz.ntmps12 rfl rfl ?_
 refine z2 ?_
 refine x_box rfl rfl trivial rfl rfl hw rfl (fun w b2 hw => ?_)
 refine x_box rfl rfl trivial rfl rfl hw rfl (fun w b3 hw => ?_)
 refine z4 ?_
 refine lA many_api_Report hw ?_
 refine lA many_api_Report hw ?_
 refine x_call rfl rfl trivial cal_ref00_EqReport rfl (ct_ref00_EqReport hw (ha.of sF) (hb.of sF)) rfl (fun w v7 hv => ?_)
 obtain ⟨rfl, hw⟩ := hv
 refine z3 ?_
 exact end1 rfl rfl rfl ⟨rfl, hw.tail.tail⟩
end
section
variable {P : Program} {n : Nat} {ops : Array Oper} {dr : Bool} {done r : List Nat} {K : Env → World → Prop} {e : Env} {w : World} {i d : Nat} {t s T : TypeId} {p : String} {af : Array Edge} {g : Option (Nat × Bool)} {x y : Operand} {G : Gh} {L R : List Assn}
theorem x_st1R {b o cap m j : Nat} {v : Value} {xs xs' : List Value} (ho : ops[i]? = some ⟨none, .store s x y, t, p, af, g⟩) (hg : Gd ops e g) (hx : ev e x = some (.pointer (some ⟨b, o, none⟩))) (hy : ev e y = some v) (h1 : oneB P s = true) (hv : v.oneCell' = true)
  (hw : Sat G L w) (hp : Pick (row T 1 (.slice (some ⟨b, 0, none⟩) m cap) m xs) L R) (hj : j < m) (hoj : o = j) (hxs : xs.set j v = xs') (hpd : pend P ops dr done i = [])
  (h : ∀ w', Sat G (row T 1 (.slice (some ⟨b, 0, none⟩) m cap) m xs' :: R) w' → XL P n ops dr (i :: done) r K e w') : XL P n ops dr done (i :: r) K e w := by
 subst hoj hxs
 obtain ⟨hl, b', cur, hb, hc1, hc2, hc3, hw'⟩ := row_some (hw.pick hp) (by omega)
 cases hb
 have hlx : xs.length = m := by omega
 refine x_st1 (l' := xs.set o v ++ cur) ho hg hx hy h1 hv hw' .here ?_ ?_ hpd (fun w2 hw2 => h w2 ?_)
 ·rw [Nat.blt_eq, List.length_append]; omega
 ·rw [List.set_append_left _ _ (by omega)]
 exact row_mk hw2 (by rw [List.length_set]; exact hl) hc1 hc2 (by rw [← hc3, List.length_append, List.length_append, List.length_set])
end
theorem flatten_setN {z : Nat} : ∀ {rs : List (List Value)} {j : Nat} {cs cur : List Value}, (∀ r ∈ rs, r.length = z) → cs.length = z → j < rs.length → (rs.flatten ++ cur).take (j * z) ++ cs ++ (rs.flatten ++ cur).drop (j * z + z) = (rs.set j cs).flatten ++ cur
 | [], j, cs, cur, _, _, hj => by simp at hj
 | r :: rs, 0, cs, cur, hz, hc, _ => by
  have hr := hz r (List.mem_cons_self ..)
  simp only [List.flatten_cons, Nat.zero_mul, List.take_zero, List.nil_append, Nat.zero_add, List.set_cons_zero]
  rw [List.append_assoc, ← hr, List.drop_left, List.append_assoc]
 | r :: rs, j + 1, cs, cur, hz, hc, hj => by
  have hr := hz r (List.mem_cons_self ..)
  have ih := flatten_setN (rs := rs) (j := j) (cs := cs) (cur := cur) (fun r h => hz r (List.mem_cons_of_mem _ h)) hc (by simpa using hj)
  simp only [List.flatten_cons, List.set_cons_succ, List.append_assoc] at ih ⊢
  have e1 : (j + 1) * z = r.length + j * z := by rw [hr, Nat.add_mul]; omega
  rw [e1, Nat.add_assoc, List.take_append, List.take_of_length_le (by omega), Nat.add_sub_cancel_left, List.drop_append, List.drop_eq_nil_of_le (by omega), Nat.add_sub_cancel_left, List.nil_append, List.append_assoc, ih]
section
variable {P : Program} {n : Nat} {ops : Array Oper} {dr : Bool} {done r : List Nat} {K : Env → World → Prop} {e : Env} {w : World} {i d : Nat} {t s T : TypeId} {p : String} {af : Array Edge} {g : Option (Nat × Bool)} {x y : Operand} {G : Gh} {L R : List Assn}
theorem x_stNR {b o cap j z : Nat} {cs : List Value} {rs rs' : List (List Value)} (ho : ops[i]? = some ⟨none, .store s x y, t, p, af, g⟩) (hg : Gd ops e g) (hx : ev e x = some (.pointer (some ⟨b, o, none⟩))) (hy : ev e y = some (.agg cs.toArray)) (h1 : manyB P s z = true) (hz : cs.length = z) (hv : Ones cs)
  (hw : Sat G L w) (hrz : ∀ r ∈ rs, r.length = z) (hp : Pick (row T z (.slice (some ⟨b, 0, none⟩) rs.length cap) rs.length rs.flatten) L R) (hj : j < rs.length) (hoj : o = j * z) (hrs : rs.set j cs = rs') (hpd : pend P ops dr done i = [])
  (h : ∀ w', Sat G (row T z (.slice (some ⟨b, 0, none⟩) rs.length cap) rs.length rs'.flatten :: R) w' → XL P n ops dr (i :: done) r K e w') : XL P n ops dr done (i :: r) K e w := by
 subst hoj hrs
 obtain ⟨hl, b', cur, hb, hc1, hc2, hc3, hw'⟩ := row_some (hw.pick hp) (by omega)
 cases hb
 have hjz : j * z + z ≤ rs.length * z := by
  have := Nat.mul_le_mul_right z (show j + 1 ≤ rs.length from hj)
  rw [Nat.add_mul, Nat.one_mul] at this; exact this
 have hsz : ∀ r ∈ rs.set j cs, r.length = z := fun r hr => by
  rcases List.mem_or_eq_of_mem_set hr with hr | hr
  ·exact hrz r hr
  rw [hr]; exact hz
 have hfl : (rs.set j cs).flatten.length = rs.length * z := by rw [flatten_length hsz, List.length_set]
 refine x_stN (l' := (rs.set j cs).flatten ++ cur) ho hg hx hy h1 hz hv hw' .here ?_ (flatten_setN hrz hz hj) hpd (fun w2 hw2 => h w2 ?_)
 ·rw [List.length_append, hl]; omega
 exact row_mk hw2 hfl hc1 hc2 (by rw [← hc3, List.length_append, List.length_append, hfl, hl])
end
section
variable {G : Gh} {L R : List Assn} {w : World}
theorem ct_walk_told {fn : Fn} {v1 v2 : Array Value} (hw : Sat G L w) : Calls Tryz.prog 56 #[.func fn v1 v2] w (Ret fun r w' => ∃ b1, r = .func (.func 104) #[] #[.pointer (some ⟨b1, 0, none⟩)] ∧ Sat G (blk b1 [.func fn v1 v2] 133 :: L) w') := by
 refine calls_of_x (args := [_]) Tryz.func56 rfl Tryz.ntmps56 rfl rfl ?_
 refine z2 ?_
 refine x_box rfl rfl trivial rfl rfl hw rfl (fun w b1 hw => ?_)
 refine z4 ?_
 refine x_mkf (v1 := #[]) (v2 := #[.pointer (some ⟨b1, 0, none⟩)]) rfl rfl trivial (by intro z hz; simp at hz; subst hz; exact ⟨_, rfl⟩) (by simp) (by simp only [List.map_toArray, List.map_cons, List.map_nil]; rfl) ?_
 refine z3 ?_
 exact end1 rfl rfl rfl ⟨b1, rfl, hw⟩
theorem ct_slices_All_api_Pair_api_Pair {a : Option Addr} {n c : Nat} (hw : Sat G L w) : Calls Tryz.prog 57 #[.slice a n c] w (Ret fun r w' => ∃ b1, r = .func (.func 105) #[] #[.pointer (some ⟨b1, 0, none⟩)] ∧ Sat G (blk b1 [.slice a n c] 58 :: L) w') := by
 refine calls_of_x (args := [_]) Tryz.func57 rfl Tryz.ntmps57 rfl rfl ?_
 refine z2 ?_
 refine x_box rfl rfl trivial rfl rfl hw rfl (fun w b1 hw => ?_)
 refine z4 ?_
 refine x_mkf (v1 := #[]) (v2 := #[.pointer (some ⟨b1, 0, none⟩)]) rfl rfl trivial (by intro z hz; simp at hz; subst hz; exact ⟨_, rfl⟩) (by simp) (by simp only [List.map_toArray, List.map_cons, List.map_nil]; rfl) ?_
 refine z3 ?_
 exact end1 rfl rfl rfl ⟨b1, rfl, hw⟩
theorem ct_ref14_check_enter {cq q mb nm mc : Nat} {keys n : Int} {v : RvV} {met : List Bool} (hw : Sat G (blk cq [.pointer (some ⟨q, 0, none⟩), .slice (some ⟨mb, 0, none⟩) nm mc, .int .i64 keys] 139 :: row 4 1 (.slice (some ⟨mb, 0, none⟩) nm mc) nm (bls met) :: rvP q v L) w) (hl : v.c.length ≤ 65536) (hm : met.length = nm) (hnm : nm = v.c.length + 1) :
  Calls Tryz.prog 107 #[.pointer (some ⟨cq, 0, none⟩), .int .i64 n] w (Ret fun r w' =>
   ((¬ 0 < cntP v.c n ∨ met.getD n.toNat false = true) ∧ r = .bool false ∧ Sat G (blk cq [.pointer (some ⟨q, 0, none⟩), .slice (some ⟨mb, 0, none⟩) nm mc, .int .i64 keys] 139 :: row 4 1 (.slice (some ⟨mb, 0, none⟩) nm mc) nm (bls met) :: rvP q v L) w') ∨
   (¬ (¬ 0 < cntP v.c n ∨ met.getD n.toNat false = true) ∧ r = .bool true ∧ Sat G (blk cq [.pointer (some ⟨q, 0, none⟩), .slice (some ⟨mb, 0, none⟩) nm mc, .int .i64 keys] 139 :: row 4 1 (.slice (some ⟨mb, 0, none⟩) nm mc) nm (bls (met.set n.toNat true)) :: rvP q v L) w')) := by
 have hth : 0 < cntP v.c n → 1 ≤ n ∧ n ≤ (v.c.length : Int) := fun h => by
  unfold cntP at h
  split at h
  ·assumption
  omega
 refine calls_of_x (args := [_, _]) Tryz.func107 rfl Tryz.ntmps107 rfl rfl ?_
 refine z10 ?_
 refine lD one_p_coppiceref11_Vault hw ?_
 refine z1 ?_
 refine x_call rfl rfl trivial cal_ref11_Vault_There rfl (ct_ref11_Vault_There (q := q) (v := v) (hw.b [blk q _ _, row 3 _ _ _ _, row 4 1 v.lv _ _, row 75 _ _ _ _]) hl) rfl (fun w v10 hv => ?_)
 obtain ⟨rfl, hw⟩ := hv
 have hw := hw.b [blk cq _ _, row 4 1 (.slice (some ⟨mb, 0, none⟩) nm mc) _ _]
 have hmk : Knows (blk cq [.pointer (some ⟨q, 0, none⟩), .slice (some ⟨mb, 0, none⟩) nm mc, .int .i64 keys] 139 :: row 4 1 (.slice (some ⟨mb, 0, none⟩) nm mc) nm (bls met) :: rvP q v L) (SlV (.slice (some ⟨mb, 0, none⟩) nm mc) (bls met)) := by
  have h := rowL (v := .slice (some ⟨mb, 0, none⟩) nm mc) (c := met) (R := rvP q v L)
  rw [hm] at h
  exact h.cons _
 refine x_notp rfl rfl trivial rfl ?_
 refine z1 ?_
 refine xl_and (l1 := [8, 9, 10, 11, 12, 13, 14, 15]) (l2 := []) rfl (d := 20) (¬ 0 < cntP v.c n ∨ met.getD n.toNat false = true) rfl ?_ ?_
 ·
  refine xl_split (d := 12) rfl (fun h1 => ?_) (fun h1 => ?_)
  ·
   refine z9 ?_
   refine cQ ?_
   first | exact (decide_eq_true (Or.inl h1)).symm | exact decide_eq_decide.2 ⟨.inr, fun h => h.resolve_left h1⟩
  refine z1 ?_
  refine x_nc rfl rfl ⟨_, rfl, rfl⟩ rfl ?_
  refine z1 ?_
  refine lD one_sl_bool hw ?_
  refine z1 ?_
  refine x_idx1 rfl rfl ⟨_, rfl, rfl⟩ U_sl_bool sz_bool rfl rfl ⟨by omega, by omega⟩ ?_
  refine x_ld rfl rfl ⟨_, rfl, rfl⟩ rfl (Loads.one one_bool ((hmk.at hw).at (bls_at (by have := hth (Decidable.not_not.1 h1); omega)))) ?_
  refine z2 ?_
  refine cQ ?_
  first | exact (decide_eq_true (Or.inl h1)).symm | exact decide_eq_decide.2 ⟨.inr, fun h => h.resolve_left h1⟩
 refine xl_nil ?_
 refine x_if rfl (fun h2 => ?_) (fun h2 => ?_)
 ·
  refine z5 ?_
  exact end1 rfl rfl rfl (.inl ⟨h2, rfl, hw⟩)
 have h3 := hth (Decidable.not_not.1 (fun h => h2 (.inl h)))
 refine z6 ?_
 refine lD one_sl_bool hw ?_
 refine z1 ?_
 refine x_idx1 rfl rfl trivial U_sl_bool sz_bool rfl rfl ⟨by omega, by omega⟩ ?_
 refine x_st1R (xs' := bls (met.set n.toNat true)) (m := nm) (j := n.toNat) rfl trivial rfl rfl one_bool rfl hw pK (by have := hth (Decidable.not_not.1 (fun h => h2 (.inl h))); omega) (Nat.zero_add _) (by simp [bls, List.map_set]) rfl (fun w hw => ?_)
 refine z6 ?_
 exact end1 rfl rfl rfl (.inr ⟨h2, rfl, hw.b [blk cq _ _, row 4 1 (.slice (some ⟨mb, 0, none⟩) nm mc) _ _]⟩)
end
def inR (rs : List (Int × Int)) (n : Int) : Prop := ∃ x ∈ rs, x.1 ≤ n ∧ n ≤ x.2
def RsOk : Int → List (Int × Int) → Prop
 | _, [] => True
 | b, x :: r => b ≤ x.1 ∧ x.1 ≤ x.2 ∧ RsOk (x.2 + 2) r
theorem RsOk.mono {b b' : Int} (h : b' ≤ b) : ∀ {rs : List (Int × Int)}, RsOk b rs → RsOk b' rs
 | [], _ => trivial
 | x :: r, hr => ⟨by have := hr.1; omega, hr.2.1, hr.2.2⟩
theorem RsOk.ge : ∀ {b : Int} {rs : List (Int × Int)}, RsOk b rs → ∀ {n : Int}, inR rs n → b ≤ n
 | _, [], _, _, ⟨_, hx, _⟩ => by cases hx
 | b, x :: r, h, n, ⟨y, hy, h1, h2⟩ => by
  rcases List.mem_cons.1 hy with rfl | hy
  ·have := h.1; omega
  have := RsOk.ge h.2.2 ⟨y, hy, h1, h2⟩
  have := h.1; have := h.2.1; omega
theorem RsOk.mem : ∀ {b : Int} {rs : List (Int × Int)}, RsOk b rs → ∀ {x : Int × Int}, x ∈ rs → b ≤ x.1 ∧ x.1 ≤ x.2
 | _, [], _, _, hx => by cases hx
 | b, y :: r, h, x, hx => by
  rcases List.mem_cons.1 hx with rfl | hx
  ·exact ⟨h.1, h.2.1⟩
  have := RsOk.mem h.2.2 hx
  have := h.1; have := h.2.1; omega
theorem RsOk.len : ∀ {b m : Int} {rs : List (Int × Int)}, RsOk b rs → (∀ n, inR rs n → n ≤ m) → b ≤ m + 2 → 2 * (rs.length : Int) ≤ m + 2 - b
 | b, m, [], _, _, hb => by simp; omega
 | b, m, x :: r, h, hm, hb => by
  have h1 : x.2 ≤ m := hm x.2 ⟨x, List.mem_cons_self .., h.2.1, Int.le_refl _⟩
  have := RsOk.len (m := m) h.2.2 (fun n ⟨y, hy, h1, h2⟩ => hm n ⟨y, List.mem_cons_of_mem _ hy, h1, h2⟩) (by omega)
  have := h.1; have := h.2.1
  simp only [List.length_cons]; omega
theorem inR_cons {x : Int × Int} {r : List (Int × Int)} {n : Int} : inR (x :: r) n ↔ (x.1 ≤ n ∧ n ≤ x.2) ∨ inR r n := by
 unfold inR; simp only [List.mem_cons, exists_eq_or_imp]
theorem inR_nil {n : Int} : ¬ inR [] n := fun ⟨_, h, _⟩ => by cases h
def insR (a b : Int) : List (Int × Int) → List (Int × Int)
 | [] => [(a, b)]
 | x :: r => if x.2 < a ∧ x.2 + 1 < a then x :: insR a b r else if b < x.1 ∧ b < x.1 - 1 then (a, b) :: x :: r else insR (min a x.1) (max b x.2) r
theorem addAbove : ∀ (rs : List (Int × Int)) (B A : List (Int × Int)) (a b c : Int), a ≤ b → RsOk c rs → b + 1 < c → rs.foldl addStep ⟨B, A, (a, b)⟩ = ⟨B, A ++ rs, (a, b)⟩
 | [], B, A, a, b, c, _, _, _ => by simp
 | x :: r, B, A, a, b, c, hab, h, hb => by
  have h1 := h.1; have h2 := h.2.1
  rw [List.foldl_cons]
  have e : addStep ⟨B, A, (a, b)⟩ x = ⟨B, A ++ [x], (a, b)⟩ := by
   unfold addStep; simp only
   rw [if_neg (by omega), if_pos (by omega)]
  rw [e, addAbove r B (A ++ [x]) a b _ hab h.2.2 (by omega)]
  simp
theorem addIns : ∀ (rs : List (Int × Int)) (B : List (Int × Int)) (a b c : Int), a ≤ b → RsOk c rs → (rs.foldl addStep ⟨B, [], (a, b)⟩).below ++ [(rs.foldl addStep ⟨B, [], (a, b)⟩).r] ++ (rs.foldl addStep ⟨B, [], (a, b)⟩).above = B ++ insR a b rs
 | [], B, a, b, c, _, _ => by simp [insR]
 | x :: r, B, a, b, c, hab, h => by
  rw [List.foldl_cons, insR]
  by_cases h1 : x.2 < a ∧ x.2 + 1 < a
  ·have e : addStep ⟨B, [], (a, b)⟩ x = ⟨B ++ [x], [], (a, b)⟩ := by unfold addStep; simp only; rw [if_pos h1]
   rw [e, if_pos h1, addIns r (B ++ [x]) a b _ hab h.2.2]; simp
  rw [if_neg h1]
  by_cases h2 : b < x.1 ∧ b < x.1 - 1
  ·have e : addStep ⟨B, [], (a, b)⟩ x = ⟨B, [x], (a, b)⟩ := by unfold addStep; simp only; rw [if_neg h1, if_pos h2]; rfl
   rw [e, if_pos h2, addAbove r B [x] a b _ hab h.2.2 (by have := h.2.1; omega)]; simp
  have e : addStep ⟨B, [], (a, b)⟩ x = ⟨B, [], (min a x.1, max b x.2)⟩ := by unfold addStep; simp only; rw [if_neg h1, if_neg h2]
  rw [e, if_neg h2, addIns r B _ _ _ (by omega) h.2.2]
theorem addR_ins {rs : List (Int × Int)} {a b c : Int} (hab : a ≤ b) (h : RsOk c rs) : addR rs a b = insR a b rs := by
 unfold addR addF; rw [addIns rs [] a b c hab h]; simp
theorem insR_ok : ∀ (rs : List (Int × Int)) (a b c : Int), a ≤ b → RsOk c rs → c ≤ a → RsOk c (insR a b rs)
 | [], a, b, c, hab, _, hc => ⟨hc, hab, trivial⟩
 | x :: r, a, b, c, hab, h, hc => by
  have h1 := h.1; have h2 := h.2.1
  rw [insR]
  split
  ·exact ⟨h1, h2, insR_ok r a b _ hab h.2.2 (by omega)⟩
  split
  ·exact ⟨hc, hab, by simp only; omega, h2, h.2.2⟩
  exact insR_ok r _ _ _ (by omega) (h.2.2.mono (by omega)) (by omega)
theorem insR_in : ∀ (rs : List (Int × Int)) (a b c : Int), a ≤ b → RsOk c rs → ∀ n, inR (insR a b rs) n ↔ (a ≤ n ∧ n ≤ b) ∨ inR rs n
 | [], a, b, c, hab, _, n => by rw [insR, inR_cons]
 | x :: r, a, b, c, hab, h, n => by
  have h1 := h.1; have h2 := h.2.1
  rw [insR]
  split
  ·rw [inR_cons, inR_cons, insR_in r a b _ hab h.2.2 n]
   constructor
   ·rintro (h | h | h)
    ·exact .inr (.inl h)
    ·exact .inl h
    exact .inr (.inr h)
   rintro (h | h | h)
   ·exact .inr (.inl h)
   ·exact .inl h
   exact .inr (.inr h)
  split
  ·rw [inR_cons]
  rw [insR_in r _ _ _ (by omega) h.2.2 n, inR_cons]
  constructor
  ·rintro (h | h)
   ·by_cases hx : x.1 ≤ n ∧ n ≤ x.2
    ·exact .inr (.inl hx)
    exact .inl (by omega)
   exact .inr (.inr h)
  rintro (h | h | h)
  ·exact .inl (by omega)
  ·exact .inl (by omega)
  exact .inr h
theorem remR_ok : ∀ (rs : List (Int × Int)) (k c : Int), RsOk c rs → RsOk c (remR rs k k)
 | [], _, _, _ => trivial
 | x :: r, k, c, h => by
  have h1 := h.1; have h2 := h.2.1
  have ih := remR_ok r k _ h.2.2
  unfold remR at ih ⊢
  rw [List.flatMap_cons]
  unfold remOne
  repeat' split
  all_goals simp only [List.nil_append, List.singleton_append, List.cons_append]
  ·exact ⟨h1, h2, ih⟩
  ·exact ⟨h1, by simp only; omega, by simp only; omega, by simp only; omega, ih⟩
  ·exact ⟨h1, by simp only; omega, ih.mono (by simp only; omega)⟩
  ·exact ⟨by simp only; omega, by simp only; omega, ih⟩
  exact ih.mono (by omega)
theorem remR_in : ∀ (rs : List (Int × Int)) (k c : Int), RsOk c rs → ∀ n, inR (remR rs k k) n ↔ inR rs n ∧ n ≠ k
 | [], _, _, _, n => ⟨fun h => absurd h inR_nil, fun h => absurd h.1 inR_nil⟩
 | x :: r, k, c, h, n => by
  have h2 := h.2.1
  have ih := remR_in r k _ h.2.2 n
  unfold remR at ih ⊢
  rw [List.flatMap_cons, inR_cons]
  have happ : ∀ (A B : List (Int × Int)), inR (A ++ B) n ↔ inR A n ∨ inR B n := fun A B => by
   unfold inR
   constructor
   ·rintro ⟨y, hy, h⟩
    rcases List.mem_append.1 hy with hy | hy
    ·exact .inl ⟨y, hy, h⟩
    exact .inr ⟨y, hy, h⟩
   rintro (⟨y, hy, h⟩ | ⟨y, hy, h⟩)
   ·exact ⟨y, List.mem_append_left _ hy, h⟩
   exact ⟨y, List.mem_append_right _ hy, h⟩
  rw [happ, ih]
  have h1 : inR (remOne k k x) n ↔ (x.1 ≤ n ∧ n ≤ x.2) ∧ n ≠ k := by
   unfold remOne
   repeat' split
   all_goals simp only [happ, inR_cons, List.nil_append, List.singleton_append, List.cons_append]
   all_goals (try simp only [inR_nil, or_false])
   all_goals (first | omega | exact ⟨fun h => h.elim, fun h => by omega⟩)
  rw [h1]
  constructor
  ·rintro (h | h)
   ·exact ⟨.inl h.1, h.2⟩
   exact ⟨.inr h.1, h.2⟩
  rintro ⟨h | h, h'⟩
  ·exact .inl ⟨h, h'⟩
  exact .inr ⟨h, h'⟩
theorem inR_head {x : Int × Int} {r : List (Int × Int)} {c : Int} (h : RsOk c (x :: r)) : inR (x :: r) x.1 ∧ ∀ n, inR (x :: r) n → x.1 ≤ n :=
 ⟨⟨x, List.mem_cons_self .., Int.le_refl _, h.2.1⟩, fun n hn => by
  rcases inR_cons.1 hn with h' | h'
  ·exact h'.1
  ·have := RsOk.ge h.2.2 h'
   have := h.2.1; omega⟩
def st2 (x : Int) (b : Bool) : Int := if 0 < x then (if b = true then 4 else 3) else if b = true then 2 else 1
theorem st2_range (x : Int) (b : Bool) : 1 ≤ st2 x b ∧ st2 x b ≤ 4 := by unfold st2; cases b <;> by_cases h : 0 < x <;> simp [h]
def cntS (k : Int) : List Int → List Bool → Int
 | x :: c, b :: l => (if st2 x b = k then 1 else 0) + cntS k c l
 | _, _ => 0
theorem cntS_range (k : Int) : ∀ (c : List Int) (l : List Bool), 0 ≤ cntS k c l ∧ cntS k c l ≤ c.length
 | [], _ => by simp [cntS]
 | x :: c, [] => by simp [cntS]; omega
 | x :: c, b :: l => by
  have := cntS_range k c l
  simp only [cntS, List.length_cons]
  split <;> omega
theorem cntS_set (k y : Int) : ∀ (c : List Int) (l : List Bool) (i : Nat), i < c.length → l.length = c.length → cntS k (c.set i y) l = cntS k c l - (if st2 (c.getD i 0) (l.getD i false) = k then 1 else 0) + (if st2 y (l.getD i false) = k then 1 else 0)
 | [], _, i, hi, _ => by simp at hi
 | x :: c, [], i, _, hl => by simp at hl
 | x :: c, b :: l, 0, _, _ => by simp only [List.set_cons_zero, cntS, List.getD_cons_zero]; omega
 | x :: c, b :: l, i + 1, hi, hl => by
  simp only [List.set_cons_succ, cntS, List.getD_cons_succ]
  rw [cntS_set k y c l i (by simpa using hi) (by simpa using hl)]; omega
theorem cntS_tal (k : Int) : ∀ c : List Int, cntS k c (c.map fun x => decide (0 < x)) = talN c k
 | [] => by simp [cntS, talN]
 | x :: c => by
  have ih := cntS_tal k c
  have e : st2 x (decide (0 < x)) = st1 x := by unfold st2 st1; by_cases h : 0 < x <;> simp [h]
  simp only [List.map_cons, cntS, ih, e, talN, List.filter_cons]
  by_cases h : st1 x = k <;> simp [h] <;> omega
theorem stP_st2 {c : List Int} {l : List Bool} {n : Int} (h : thereP c n) : stP c l n = st2 (c.getD (n - 1).toNat 0) (l.getD (n - 1).toNat false) := by unfold stP st2; rw [if_pos h]
structure Po where
 refs : Int
 c : List Int
 l : List Bool
 pa : List (Int × Int)
 pf : Int
def turnC (c : List Int) (n b : Int) : List Int := c.set (n - 1).toNat (c.getD (n - 1).toNat 0 + b)
def undoC (c : List Int) (pa : List (Int × Int)) : List Int := pa.foldr (fun a c => turnC c a.1 (-a.2)) c
def Po.act (P : Po) (n b : Int) : Po := { P with c := turnC P.c n b, pa := P.pa ++ [(n, b)] }
def Po.st (P : Po) (n : Int) : Int := stP P.c P.l n
def Po.cnt (P : Po) (n : Int) : Int := cntP P.c n
def lowP (c : List Int) (l : List Bool) : Option Int := ((List.range c.length).find? fun (i : Nat) => stP c l ((i : Int) + 1) == 1).map fun (i : Nat) => (i : Int) + 1
def Po.low (P : Po) : Option Int := lowP P.c P.l
def Po.undo (P : Po) (k : Nat) : Po := { P with c := undoC P.c (P.pa.drop k), pa := P.pa.take k }
structure Po.Ok (P : Po) : Prop where
 len : P.c.length ≤ 65536
 last : P.l.length = P.c.length
 refs : 2 ≤ P.refs ∧ P.refs < 65536
 acts : ∀ a ∈ P.pa, thereP P.c a.1 ∧ (a.2 = 1 ∨ a.2 = -1)
 hist : ∀ k, k ≤ P.pa.length → ∀ x ∈ undoC P.c (P.pa.drop k), 0 ≤ x ∧ x ≤ P.refs
theorem turnC_length (c : List Int) (n b : Int) : (turnC c n b).length = c.length := by simp [turnC]
theorem undoC_length : ∀ (pa : List (Int × Int)) (c : List Int), (undoC c pa).length = c.length
 | [], _ => rfl
 | a :: pa, c => by
  have := undoC_length pa c
  unfold undoC at this ⊢
  rw [List.foldr_cons, turnC_length]; exact this
theorem turnC_there {c : List Int} {n b m : Int} : thereP (turnC c n b) m ↔ thereP c m := by unfold thereP; rw [turnC_length]
theorem turnC_get {c : List Int} {n b : Int} {i : Nat} (h : thereP c n) : (turnC c n b).getD i 0 = if i = (n - 1).toNat then c.getD i 0 + b else c.getD i 0 := by
 unfold turnC
 simp only [List.getD_eq_getElem?_getD, List.getElem?_set]
 by_cases e : i = (n - 1).toNat
 ·subst e
  have hlt : (n - 1).toNat < c.length := by unfold thereP at h; omega
  rw [if_pos rfl, if_pos rfl, if_pos hlt]; rfl
 rw [if_neg e, if_neg (fun h => e h.symm)]
theorem turnC_back {c : List Int} {n b : Int} (h : thereP c n) : turnC (turnC c n b) n (-b) = c := by
 refine List.ext_getElem (by rw [turnC_length, turnC_length]) fun i h1 h2 => ?_
 have e : ∀ (d : List Int) (hd : i < d.length), d[i] = d.getD i 0 := fun d hd => by simp [hd]
 rw [e _ h1, e _ h2, turnC_get (turnC_there.2 h), turnC_get h]
 split <;> omega
theorem undoC_snoc (c : List Int) (pa : List (Int × Int)) (a : Int × Int) : undoC c (pa ++ [a]) = undoC (turnC c a.1 (-a.2)) pa := by unfold undoC; rw [List.foldr_append]; rfl
theorem Po.Ok.now {P : Po} (h : P.Ok) : ∀ x ∈ P.c, 0 ≤ x ∧ x ≤ P.refs := by
 have := h.hist P.pa.length (Nat.le_refl _)
 rw [List.drop_length] at this
 exact this
theorem Po.Ok.cnt {P : Po} (h : P.Ok) (n : Int) : 0 ≤ P.cnt n ∧ P.cnt n ≤ P.refs := by
 have hr := h.refs
 unfold Po.cnt cntP
 split
 ·rename_i hn
  have hlt : (n - 1).toNat < P.c.length := by unfold thereP at hn; omega
  have : P.c.getD (n - 1).toNat 0 ∈ P.c := by
   rw [List.getD_eq_getElem?_getD, List.getElem?_eq_getElem hlt]; exact List.getElem_mem hlt
  exact h.now _ this
 omega
theorem Po.Ok.act {P : Po} (h : P.Ok) {n b : Int} (hn : thereP P.c n) (hb : b = 1 ∨ b = -1) (hc : 0 ≤ P.cnt n + b ∧ P.cnt n + b ≤ P.refs) : (P.act n b).Ok := by
 refine ⟨by simp only [Po.act, turnC_length]; exact h.len, by simp only [Po.act, turnC_length]; exact h.last, h.refs, fun a ha => ?_, fun k hk x hx => ?_⟩
 ·simp only [Po.act] at ha ⊢
  rcases List.mem_append.1 ha with ha | ha
  ·exact ⟨turnC_there.2 (h.acts a ha).1, (h.acts a ha).2⟩
  simp at ha; subst ha; exact ⟨turnC_there.2 hn, hb⟩
 simp only [Po.act, List.length_append, List.length_singleton] at hk hx ⊢
 by_cases hke : k = P.pa.length + 1
 ·subst hke
  rw [List.drop_eq_nil_of_le (by simp)] at hx
  simp only [undoC, List.foldr_nil] at hx
  unfold turnC at hx
  rcases List.mem_or_eq_of_mem_set hx with hx | hx
  ·exact h.now x hx
  rw [hx]
  have : P.cnt n = P.c.getD (n - 1).toNat 0 := by unfold Po.cnt cntP; rw [if_pos hn]
  omega
 rw [List.drop_append_of_le_length (by omega), undoC_snoc] at hx
 simp only at hx
 rw [turnC_back hn] at hx
 exact h.hist k (by omega) x hx
theorem Po.Ok.undo {P : Po} (h : P.Ok) {k : Nat} (hk : k ≤ P.pa.length) : (P.undo k).Ok := by
 refine ⟨by simp only [Po.undo, undoC_length]; exact h.len, by simp only [Po.undo, undoC_length]; exact h.last, h.refs, fun a ha => ?_, fun j hj x hx => ?_⟩
 ·simp only [Po.undo] at ha ⊢
  have := h.acts a (List.mem_of_mem_take ha)
  exact ⟨by unfold thereP; rw [undoC_length]; exact this.1, this.2⟩
 simp only [Po.undo, List.length_take] at hj hx ⊢
 have e : undoC (undoC P.c (P.pa.drop k)) ((P.pa.take k).drop j) = undoC P.c (P.pa.drop j) := by
  have : P.pa.drop j = (P.pa.take k).drop j ++ P.pa.drop k := by
   conv => lhs; rw [← List.take_append_drop k P.pa]
   rw [List.drop_append_of_le_length (by rw [List.length_take]; omega)]
  rw [this]; unfold undoC; rw [List.foldr_append]
 rw [e] at hx
 exact h.hist j (by omega) x hx
theorem low_spec {c : List Int} {l : List Bool} : (∃ n, lowP c l = some n ∧ thereP c n ∧ stP c l n = 1 ∧ ∀ m, stP c l m = 1 → n ≤ m) ∨ (lowP c l = none ∧ ∀ m, stP c l m ≠ 1) := by
 unfold lowP
 cases h : (List.range c.length).find? fun (i : Nat) => stP c l ((i : Int) + 1) == 1 with
 | none =>
  refine .inr ⟨rfl, fun m hm => ?_⟩
  have hth : thereP c m := by
   unfold stP at hm; split at hm
   ·assumption
   cases hm
  have := List.find?_eq_none.1 h (m - 1).toNat (List.mem_range.2 (by unfold thereP at hth; omega))
  rw [show (((m - 1).toNat : Nat) : Int) + 1 = m by unfold thereP at hth; omega] at this
  simp [hm] at this
 | some i =>
  have h1 := List.find?_some h
  simp only [beq_iff_eq] at h1
  have h2 := List.mem_range.1 (List.mem_of_find?_eq_some h)
  refine .inl ⟨(i : Int) + 1, rfl, by unfold thereP; omega, h1, fun m hm => ?_⟩
  have hth : thereP c m := by
   unfold stP at hm; split at hm
   ·assumption
   cases hm
  unfold thereP at hth
  refine Decidable.byContradiction fun hlt => ?_
  obtain ⟨h3, la, lb, h4, h5⟩ := List.find?_eq_some_iff_append.1 h
  have hmem : (m - 1).toNat ∈ la := by
   have hm1 : (m - 1).toNat ∈ List.range c.length := List.mem_range.2 (by omega)
   rw [h4] at hm1
   rcases List.mem_append.1 hm1 with h | h
   ·exact h
   exfalso
   have hs : (la ++ i :: lb).Pairwise (· < ·) := by rw [← h4]; exact List.pairwise_lt_range
   have hs2 := (List.pairwise_append.1 hs).2.1
   rcases List.mem_cons.1 h with h | h
   ·omega
   have := (List.pairwise_cons.1 hs2).1 _ h; omega
  have := h5 _ hmem
  rw [show (((m - 1).toNat : Nat) : Int) + 1 = m by omega] at this
  simp [hm] at this
theorem stP_turn {c : List Int} {l : List Bool} {n b : Int} (h : thereP c n) {m : Int} (hm : m ≠ n) : stP (turnC c n b) l m = stP c l m := by
 unfold stP
 by_cases h1 : thereP c m
 ·have hne : ¬ (m - 1).toNat = (n - 1).toNat := by unfold thereP at h h1; omega
  have e := turnC_get (b := b) (i := (m - 1).toNat) h
  rw [if_neg hne] at e
  rw [if_pos h1, if_pos (turnC_there.2 h1), e]
 rw [if_neg h1, if_neg (fun h => h1 (turnC_there.1 h))]
def upd {α : Type} (f : Int → Option α) (n : Int) (x : Option α) : Int → Option α := fun m => if m = n then x else f m
theorem upd_same {α : Type} (f : Int → Option α) (n : Int) : upd f n (f n) = f := by funext m; unfold upd; split <;> simp_all
theorem upd_upd {α : Type} (f : Int → Option α) (n : Int) (x y : Option α) : upd (upd f n x) n y = upd f n y := by funext m; unfold upd; split <;> simp_all
def undoOn {α : Type} (f : Int → Option α) (was : List (Int × Option α)) : Int → Option α := was.foldr (fun a f => upd f a.1 a.2) f
theorem undoOn_snoc {α : Type} (f : Int → Option α) (was : List (Int × Option α)) (a : Int × Option α) : undoOn f (was ++ [a]) = undoOn (upd f a.1 a.2) was := by unfold undoOn; rw [List.foldr_append]; rfl
structure Va where
 po : Po
 on : Int → Option Pg
 va : List (Int × List (Int × Option Pg))
 vf : Int
def Va.cnt (V : Va) (n : Int) : Int := V.po.cnt n
def Va.st (V : Va) (n : Int) : Int := V.po.st n
def Va.pg (V : Va) (n : Int) : Pg := (V.on n).getD pgZ.pg
structure Vw where
 v : Va
 was : List (Int × Option Pg)
def Vw.note (x : Vw) (n : Int) : Vw := { x with was := x.was ++ [(n, x.v.on n)] }
def Vw.put (x : Vw) (n : Int) (p : Option Pg) : Vw := ⟨{ x.v with on := upd x.v.on n p }, x.was ++ [(n, x.v.on n)]⟩
def Vw.act (x : Vw) (n b : Int) : Vw := { x with v := { x.v with po := x.v.po.act n b } }
def Vw.free (x : Vw) (n : Int) : Vw := if x.v.st n = 1 then x.put n none else x
structure Grown (V0 : Va) (x : Vw) : Prop where
 va : x.v.va = V0.va
 vf : x.v.vf = V0.vf
 on : undoOn x.v.on x.was = V0.on
 pf : x.v.po.pf = V0.po.pf
 l : x.v.po.l = V0.po.l
 refs : x.v.po.refs = V0.po.refs
 pa : ∃ more, x.v.po.pa = V0.po.pa ++ more ∧ undoC x.v.po.c more = V0.po.c
theorem Grown.refl (V : Va) : Grown V ⟨V, []⟩ := ⟨rfl, rfl, rfl, rfl, rfl, rfl, [], by simp, rfl⟩
theorem Grown.put {V : Va} {x : Vw} (h : Grown V x) (n : Int) (p : Option Pg) : Grown V (x.put n p) :=
 ⟨h.va, h.vf, by
  show undoOn (upd x.v.on n p) (x.was ++ [(n, x.v.on n)]) = V.on
  rw [undoOn_snoc, upd_upd, upd_same]; exact h.on, h.pf, h.l, h.refs, h.pa⟩
theorem Grown.free {V : Va} {x : Vw} (h : Grown V x) (n : Int) : Grown V (x.free n) := by
 unfold Vw.free; split
 ·exact h.put n none
 exact h
theorem Grown.act {V : Va} {x : Vw} (h : Grown V x) {n b : Int} (hn : thereP x.v.po.c n) : Grown V (x.act n b) := by
 obtain ⟨more, h1, h2⟩ := h.pa
 refine ⟨h.va, h.vf, h.on, h.pf, h.l, h.refs, more ++ [(n, b)], ?_, ?_⟩
 ·show x.v.po.pa ++ [(n, b)] = _
  rw [h1, List.append_assoc]
 show undoC (turnC x.v.po.c n b) (more ++ [(n, b)]) = _
 rw [undoC_snoc, turnC_back hn, h2]
def Va.back (V : Va) (mark : Int) (was : List (Int × Option Pg)) : Va := { V with po := V.po.undo (mark - V.po.pf).toNat, on := undoOn V.on was }
def Po.mark (P : Po) : Int := P.pf + P.pa.length
theorem Grown.back {V : Va} {x : Vw} (h : Grown V x) : x.v.back V.po.mark x.was = V := by
 obtain ⟨more, h1, h2⟩ := h.pa
 have hm : (V.po.mark - x.v.po.pf).toNat = V.po.pa.length := by unfold Po.mark; rw [h.pf]; omega
 unfold Va.back Po.undo
 rw [hm]
 have e1 : x.v.po.pa.drop V.po.pa.length = more := by rw [h1]; simp
 have e2 : x.v.po.pa.take V.po.pa.length = V.po.pa := by rw [h1]; simp
 rw [e1, e2, h2, h.on]
 have e3 := h.pf; have e4 := h.l; have e5 := h.refs; have e6 := h.va; have e7 := h.vf
 rcases x with ⟨⟨⟨r, c, l, pa, pf⟩, on, va, vf⟩, was⟩
 rcases V with ⟨⟨r', c', l', pa', pf'⟩, on', va', vf'⟩
 simp only at e3 e4 e5 e6 e7 ⊢
 subst e3 e4 e5 e6 e7
 rfl
theorem freeR_free : ∀ (n : Nat) (c : List Int), c.length = n → RsOk 1 (freeR c) ∧ ∀ k, inR (freeR c) k ↔ thereP c k ∧ c.getD (k - 1).toNat 0 = 0 := by
 intro n
 induction n with
 | zero =>
  intro c hc
  have : c = [] := List.eq_nil_of_length_eq_zero hc
  subst this
  exact ⟨trivial, fun k => ⟨fun h => absurd h inR_nil, fun h => by unfold thereP at h; simp at h; omega⟩⟩
 | succ n ih =>
  intro c hc
  rcases c.eq_nil_or_concat with rfl | ⟨c', x, rfl⟩
  ·simp at hc
  simp only [List.concat_eq_append] at hc ⊢
  have hl : c'.length = n := by simpa using hc
  obtain ⟨h1, h2⟩ := ih c' hl
  have hg : ∀ k, thereP (c' ++ [x]) k ∧ (c' ++ [x]).getD (k - 1).toNat 0 = 0 ↔ (thereP c' k ∧ c'.getD (k - 1).toNat 0 = 0) ∨ (k = n + 1 ∧ x = 0) := fun k => by
   unfold thereP
   rw [List.length_append, List.length_singleton, hl]
   by_cases hk : (k - 1).toNat < n
   ·have e : (c' ++ [x]).getD (k - 1).toNat 0 = c'.getD (k - 1).toNat 0 := by simp only [List.getD_eq_getElem?_getD]; rw [List.getElem?_append_left (by omega)]
    rw [e]
    constructor
    ·rintro ⟨h3, h4⟩; exact .inl ⟨by omega, h4⟩
    rintro (⟨h3, h4⟩ | ⟨h3, h4⟩)
    ·exact ⟨by omega, h4⟩
    omega
   by_cases hk2 : (k - 1).toNat = n
   ·have e : (c' ++ [x]).getD (k - 1).toNat 0 = x := by rw [hk2, ← hl]; simp
    rw [e]
    constructor
    ·rintro ⟨h3, h4⟩; exact .inr ⟨by omega, h4⟩
    rintro (⟨h3, h4⟩ | ⟨h3, h4⟩)
    ·omega
    exact ⟨by omega, h4⟩
   constructor
   ·rintro ⟨h3, h4⟩; omega
   rintro (⟨h3, h4⟩ | ⟨h3, h4⟩) <;> omega
  rw [freeR_snoc]
  split
  ·rename_i hx
   rw [hl, addR_ins (Int.le_refl _) h1]
   refine ⟨insR_ok _ _ _ _ (Int.le_refl _) h1 (by omega), fun k => ?_⟩
   rw [insR_in _ _ _ _ (Int.le_refl _) h1, h2, hg]
   constructor
   ·rintro (h | h)
    ·exact .inr ⟨by omega, hx⟩
    exact .inl h
   rintro (h | h)
   ·exact .inr h
   exact .inl (by omega)
  rename_i hx
  refine ⟨h1, fun k => ?_⟩
  rw [h2, hg]
  constructor
  ·exact .inl
  rintro (h | h)
  ·exact h
  exact absurd h.2 hx
theorem ret_mono {P : Program} {f : FuncId} {a : Array Value} {w : World} {Q Q' : Value → World → Prop} (h : Calls P f a w (Ret Q)) (hq : ∀ v w', Q v w' → Q' v w') : Calls P f a w (Ret Q') :=
 h.mono fun e w' ⟨v, he, hR⟩ => ⟨v, he, hq v w' hR⟩
abbrev Box3 := (Nat × Nat × Nat) × (Int × Int)
def paCell (a : Box3) : Value := .func (.func 164) #[] #[.pointer (some ⟨a.1.1, 0, none⟩), .pointer (some ⟨a.1.2.1, 0, none⟩), .pointer (some ⟨a.1.2.2, 0, none⟩)]
def paParts (q : Nat) (a : Box3) : List Assn := [blk a.1.1 [.pointer (some ⟨q, 0, none⟩)] 34, blk a.1.2.1 [.int .i64 a.2.1] 3, blk a.1.2.2 [.int .i64 a.2.2] 3]
structure PoV where
 cv : Value
 lv : Value
 fq : Nat
 fv : Value
 av : Value
 rs : List (Int × Int)
 acs : List Box3
def tlP (c : List Int) (l : List Bool) (k : Int) : Int := if k = 0 then 0 else cntS k c l
abbrev plT (P : Po) (m : PoV) (T : Int → Int) : PlV := ⟨P.refs, P.c, m.cv, P.l, m.lv, some ⟨m.fq, 0, none⟩, T 0, T 1, T 2, T 3, T 4, m.av, P.pa.length, P.pf⟩
abbrev paO (q : Nat) (acs : List Box3) : Assn := both (acs.flatMap (paParts q))
abbrev poR (q : Nat) (n : Nat) (m : PoV) (L : List Assn) : List Assn := setQ m.fq m.fv m.rs (row 227 1 m.av n (m.acs.map paCell) :: paO q m.acs :: L)
abbrev poP (q : Nat) (P : Po) (m : PoV) (L : List Assn) : List Assn := plP q (plT P m (tlP P.c P.l)) (poR q P.pa.length m L)
structure PoF (P : Po) (m : PoV) : Prop where
 acs : m.acs.map (·.2) = P.pa
 rs : RsOk 1 m.rs
 fr : ∀ n, inR m.rs n ↔ stP P.c P.l n = 1
def poA (q : Nat) (P : Po) : Assn := ex fun m : PoV => lift (PoF P m) (both (poP q P m []))
theorem poA_open {q : Nat} {P : Po} {G : Gh} {L : List Assn} {w : World} (h : Sat G (poA q P :: L) w) : ∃ m, PoF P m ∧ Sat G (poP q P m L) w := by
 obtain ⟨m, h⟩ := h.ex_out
 obtain ⟨hf, h⟩ := h.lift_out
 exact ⟨m, hf, h.both_out⟩
theorem poA_shut {q : Nat} {P : Po} {m : PoV} {G : Gh} {L : List Assn} {w : World} (hf : PoF P m) (h : Sat G (poP q P m L) w) : Sat G (poA q P :: L) w :=
 Sat.ex_in m (Sat.lift_in hf (Sat.both_in (M := poP q P m []) h))
theorem PoF.rsn {P : Po} {m : PoV} (h : PoF P m) (hl : P.c.length ≤ 65536) : m.rs.length ≤ 65536 ∧ ∀ x ∈ m.rs, RunOk x := by
 have hin : ∀ n, inR m.rs n → n ≤ 65536 := fun n hn => by
  have := (h.fr n).1 hn
  unfold stP at this
  split at this
  ·rename_i hh; unfold thereP at hh; omega
  cases this
 refine ⟨by have := RsOk.len h.rs hin (by omega); omega, fun x hx => ?_⟩
 have h1 := RsOk.mem h.rs hx
 have h2 := hin x.2 ⟨x, hx, h1.2, Int.le_refl _⟩
 unfold RunOk; omega
theorem tlP_turn {c : List Int} {l : List Bool} {n b : Int} (hn : thereP c n) (hll : l.length = c.length) {k : Int} (hk : 1 ≤ k ∧ k ≤ 4) :
  tlP (turnC c n b) l k = (if k = stP c l n then tlP c l k - 1 else tlP c l k) + (if k = stP (turnC c n b) l n then 1 else 0) := by
 have hi : (n - 1).toNat < c.length := by unfold thereP at hn; omega
 have h0 : ¬ k = 0 := by omega
 unfold tlP
 rw [if_neg h0, if_neg h0, stP_st2 hn, stP_st2 (turnC_there.2 hn), turnC_get hn, if_pos rfl]
 unfold turnC
 rw [cntS_set k _ c l _ hi hll]
 simp only [eq_comm (a := k)]
 split <;> split <;> omega
theorem tlP_range {c : List Int} {l : List Bool} (hl : c.length ≤ 65536) (k : Int) : 0 ≤ tlP c l k ∧ tlP c l k ≤ 65536 := by
 unfold tlP
 split
 ·omega
 have := cntS_range k c l; omega
section
variable {G : Gh} {L R : List Assn} {w : World}
theorem ct_pool_Pool_turn {q : Nat} {P : Po} {m : PoV} {n b : Int} (hw : Sat G (poP q P m L) w) (hf : PoF P m) (hl : P.c.length ≤ 65536) (hll : P.l.length = P.c.length) (hn : thereP P.c n) (hb : b = 1 ∨ b = -1) (hc : -1000000 ≤ P.c.getD (n - 1).toNat 0 ∧ P.c.getD (n - 1).toNat 0 ≤ 1000000) :
  Calls Tryz.prog 163 #[.pointer (some ⟨q, 0, none⟩), .int .i64 n, .int .i64 b] w (Ret fun r w' => r = .tuple #[] ∧ ∃ m', PoF { P with c := turnC P.c n b } m' ∧ m'.acs = m.acs ∧ m'.av = m.av ∧ Sat G (poP q { P with c := turnC P.c n b } m' L) w') := by
 have hrs := hf.rsn hl
 have htl := fun k => tlP_range (l := P.l) hl k
 have htt := fun k => tlP_turn (b := b) (k := k) hn hll
 obtain ⟨acs, rs, fr⟩ := hf
 rcases m with ⟨cv, lv, fq, fv, av, rr, as'⟩
 rcases P with ⟨refs, c, l, pa, pf⟩
 simp only at *
 have hn1 := hn.1
 have hn2 := hn.2
 obtain ⟨ca, cc, rfl⟩ := row_form (hw.pick (A := row 3 1 cv c.length (ints c)) (.there .here))
 obtain ⟨-, cb, _, rfl, -⟩ := row_some (hw.pick (A := row 3 1 (.slice ca c.length cc) c.length (ints c)) (.there .here)) (by omega)
 obtain ⟨sb, hsb⟩ : ∃ sb, sb = stP c l n := ⟨_, rfl⟩
 obtain ⟨sn, hsn⟩ : ∃ sn, sn = stP (turnC c n b) l n := ⟨_, rfl⟩
 have hsb4 : sb = 1 ∨ sb = 2 ∨ sb = 3 ∨ sb = 4 := by rw [hsb, stP_st2 hn]; have := st2_range (c.getD (n - 1).toNat 0) (l.getD (n - 1).toNat false); omega
 have hsn4 : sn = 1 ∨ sn = 2 ∨ sn = 3 ∨ sn = 4 := by rw [hsn, stP_st2 (turnC_there.2 hn)]; have := st2_range ((turnC c n b).getD (n - 1).toNat 0) (l.getD (n - 1).toNat false); omega
 rw [← hsb, ← hsn] at htt
 have hlc := turnC_length c n b
 obtain ⟨T, hT⟩ : ∃ T, T = tlP c l := ⟨_, rfl⟩
 rw [← hT] at htl htt
 replace hw : Sat G (plP q (plT ⟨refs, c, l, pa, pf⟩ ⟨.slice (some ⟨cb, 0, none⟩) c.length cc, lv, fq, fv, av, rr, as'⟩ T) (poR q pa.length ⟨.slice (some ⟨cb, 0, none⟩) c.length cc, lv, fq, fv, av, rr, as'⟩ L)) w := by rw [hT]; exact hw
 refine calls_of_x (args := [_, _, _]) Tryz.func163 rfl Tryz.ntmps163 rfl rfl ?_
 refine z4 ?_
 refine x_call rfl rfl trivial cal_pool_Pool_State rfl (ct_pool_Pool_State (q := q) (p := plT ⟨refs, c, l, pa, pf⟩ ⟨.slice (some ⟨cb, 0, none⟩) c.length cc, lv, fq, fv, av, rr, as'⟩ T) hw hl hll) rfl (fun w v10 hv => ?_)
 obtain ⟨hv1, hw⟩ := hv
 have hv1 : v10 = .int .i64 sb := by rw [hsb]; exact hv1
 subst hv1
 replace hw : Sat G (blk q (plT ⟨refs, c, l, pa, pf⟩ ⟨.slice (some ⟨cb, 0, none⟩) c.length cc, lv, fq, fv, av, rr, as'⟩ T).cells 86 :: row 3 1 (.slice (some ⟨cb, 0, none⟩) c.length cc) c.length (ints c) :: row 4 1 lv l.length (bls l) :: poR q pa.length ⟨.slice (some ⟨cb, 0, none⟩) c.length cc, lv, fq, fv, av, rr, as'⟩ L) w := hw
 refine z7 ?_
 refine lD one_sl_int hw ?_
 refine z2 ?_
 refine x_idx1 rfl rfl trivial U_sl_int sz_int rfl rfl ⟨by omega, by omega⟩ ?_
 refine x_ld rfl rfl trivial rfl (Loads.one one_int ((rowI (c := c).at hw.tail).at (ints_at (by omega)))) ?_
 refine z2 ?_
 refine x_idx1 rfl rfl trivial U_sl_int sz_int rfl rfl ⟨by omega, by omega⟩ ?_
 refine x_st1R (xs' := ints (turnC c n b)) (m := c.length) (j := (n - 1).toNat) rfl trivial rfl rfl one_int rfl hw pK (by omega) (Nat.zero_add _) (by simp [ints, turnC, List.map_set]) rfl (fun w hw => ?_)
 have hz := hw.b [blk q _ _, row 3 1 _ _ _, row 4 _ _ _ _]
 clear hw
 have hw : Sat G (plP q (plT ⟨refs, turnC c n b, l, pa, pf⟩ ⟨.slice (some ⟨cb, 0, none⟩) c.length cc, lv, fq, fv, av, rr, as'⟩ T) (poR q pa.length ⟨.slice (some ⟨cb, 0, none⟩) c.length cc, lv, fq, fv, av, rr, as'⟩ L)) w := by
  show Sat G (blk q _ _ :: row 3 1 _ (turnC c n b).length _ :: _) w
  rw [hlc]; exact hz
 refine z5 ?_
 refine x_call rfl rfl trivial cal_pool_Pool_State rfl (ct_pool_Pool_State (q := q) (p := plT ⟨refs, turnC c n b, l, pa, pf⟩ ⟨.slice (some ⟨cb, 0, none⟩) c.length cc, lv, fq, fv, av, rr, as'⟩ T) hw (by show (turnC c n b).length ≤ _; omega) (by show l.length = (turnC c n b).length; omega)) rfl (fun w v24 hv => ?_)
 obtain ⟨hv1, hw⟩ := hv
 have hv1 : v24 = .int .i64 sn := by rw [hsn]; exact hv1
 subst hv1
 replace hw : Sat G (blk q (plT ⟨refs, turnC c n b, l, pa, pf⟩ ⟨.slice (some ⟨cb, 0, none⟩) c.length cc, lv, fq, fv, av, rr, as'⟩ T).cells 86 :: row 3 1 (.slice (some ⟨cb, 0, none⟩) c.length cc) (turnC c n b).length (ints (turnC c n b)) :: row 4 1 lv l.length (bls l) :: poR q pa.length ⟨.slice (some ⟨cb, 0, none⟩) c.length cc, lv, fq, fv, av, rr, as'⟩ L) w := hw
 obtain ⟨T1, hT1⟩ : ∃ T1 : Int → Int, T1 = fun k => if k = sb then T k - 1 else T k := ⟨_, rfl⟩
 have hb1 : ∀ k, -1 ≤ T1 k ∧ T1 k ≤ 65536 := fun k => by have := htl k; rw [hT1]; simp only; split <;> omega
 obtain ⟨T2, hT2⟩ : ∃ T2 : Int → Int, T2 = fun k => if k = sn then T1 k + 1 else T1 k := ⟨_, rfl⟩
 have hsb0 : (4 + sb.toNat) < 11 := by omega
 have hts := htl sb
 have ht1 := hb1 sn
 refine z3 ?_
 refine x_draw [0, 1, 2, 3, 4, 5, 6, 7, 8, 9, 10] mixed (by kernel_rfl) ?_
 replace hw := hw.drawn (w.drawn + 1)
 refine z4 ?_
 refine x_idxA rfl rfl trivial U_a5_int sz_int rfl rfl ⟨by omega, by omega⟩ ?_
 refine x_ld rfl rfl trivial rfl (Loads.blk1 (v := .int .i64 (T sb)) one_int hw pK (by rcases hsb4 with rfl | rfl | rfl | rfl <;> rfl)) ?_
 refine z3 ?_
 refine x_idxA rfl rfl trivial U_a5_int sz_int rfl rfl ⟨by omega, by omega⟩ ?_
 refine x_st1 (l' := (plT ⟨refs, turnC c n b, l, pa, pf⟩ ⟨.slice (some ⟨cb, 0, none⟩) c.length cc, lv, fq, fv, av, rr, as'⟩ T1).cells) rfl trivial rfl rfl one_int rfl hw pK (by rcases hsb4 with h | h | h | h <;> (rw [h]; rfl)) (by rw [hT1]; rcases hsb4 with h | h | h | h <;> (rw [h]; rfl)) (by kernel_rfl) (fun w hw => ?_)
 refine z2 ?_
 refine x_draw [0, 1, 2, 3, 4, 5, 6, 7, 8, 9, 10] mixed (by kernel_rfl) ?_
 replace hw := hw.drawn (w.drawn + 1)
 refine z4 ?_
 refine x_idxA rfl rfl trivial U_a5_int sz_int rfl rfl ⟨by omega, by omega⟩ ?_
 refine x_ld rfl rfl trivial rfl (Loads.blk1 (v := .int .i64 (T1 sn)) one_int hw pK (by rcases hsn4 with h | h | h | h <;> (rw [h]; rfl))) ?_
 refine z3 ?_
 refine x_idxA rfl rfl trivial U_a5_int sz_int rfl rfl ⟨by omega, by omega⟩ ?_
 refine x_st1 (l' := (plT ⟨refs, turnC c n b, l, pa, pf⟩ ⟨.slice (some ⟨cb, 0, none⟩) c.length cc, lv, fq, fv, av, rr, as'⟩ T2).cells) rfl trivial rfl rfl one_int rfl hw pK (by rcases hsn4 with h | h | h | h <;> (rw [h]; rfl)) (by rw [hT2]; rcases hsn4 with h | h | h | h <;> (rw [h]; rfl)) (by kernel_rfl) (fun w hw => ?_)
 have hTT : plT ⟨refs, turnC c n b, l, pa, pf⟩ ⟨.slice (some ⟨cb, 0, none⟩) c.length cc, lv, fq, fv, av, rr, as'⟩ T2 = plT ⟨refs, turnC c n b, l, pa, pf⟩ ⟨.slice (some ⟨cb, 0, none⟩) c.length cc, lv, fq, fv, av, rr, as'⟩ (tlP (turnC c n b) l) := by
  have hk : ∀ k, 1 ≤ k ∧ k ≤ 4 → T2 k = tlP (turnC c n b) l k := fun k hk => by
   rw [htt k hk, hT2, hT1]; simp only
   split <;> split <;> omega
  have h0 : T2 0 = tlP (turnC c n b) l 0 := by
   rw [hT2, hT1, hT]; simp only
   rw [if_neg (by omega), if_neg (by omega)]
   rfl
  unfold plT
  rw [hk 1 (by omega), hk 2 (by omega), hk 3 (by omega), hk 4 (by omega), h0]
 rw [hTT] at hw
 clear hTT
 refine z8 ?_
 refine x_if rfl (fun h1 => ?_) (fun h1 => ?_)
 ·
  refine x_ret ?_
  have hz := hw.b [blk q _ _, row 3 1 _ _ _, row 4 _ _ _ _, blk fq _ _]
  exact end0 rfl rfl ⟨rfl, ⟨.slice (some ⟨cb, 0, none⟩) c.length cc, lv, fq, fv, av, rr, as'⟩, ⟨acs, rs, fun k => (by
   show inR rr k ↔ stP (turnC c n b) l k = 1
   by_cases hk : k = n
   ·subst hk; rw [← hsn, fr, ← hsb, h1]
   ·rw [stP_turn hn hk]; exact fr k)⟩, rfl, rfl, hz⟩
 refine z7 ?_
 refine x_if rfl (fun h2 => ?_) (fun h2 => ?_)
 ·
  refine z4 ?_
  refine lD one_p_runs_Set_int hw ?_
  refine z2 ?_
  refine x_call rfl rfl trivial cal_runs_Set_int_Remove rfl (ct_runs_Set_int_Remove (lo := n) (hi := n) (hw.b [blk fq _ _, row 232 _ _ _ _]) (Int.le_refl _) (by unfold RunOk; simp only; omega) (show rr.length ≤ 100000 by omega)) rfl (fun w v56 hv => ?_)
  obtain ⟨-, fv', hw⟩ := hv
  refine z6 ?_
  refine x_if rfl (fun h3 => ?_) (fun h3 => ?_)
  ·
   exact absurd (h2.trans h3.symm) h1
  refine x_skip ?_
  have hz := hw.b [blk q _ _, row 3 1 _ _ _, row 4 _ _ _ _, blk fq _ _]
  exact end0 rfl rfl ⟨rfl, ⟨.slice (some ⟨cb, 0, none⟩) c.length cc, lv, fq, fv', av, remR rr n n, as'⟩, ⟨acs, remR_ok _ _ _ rs, fun k => (by
     show inR (remR rr n n) k ↔ stP (turnC c n b) l k = 1
     rw [remR_in _ _ _ rs, fr]
     by_cases hk : k = n
     ·subst hk; rw [← hsn]
      exact ⟨fun h => absurd rfl h.2, fun h => absurd h h3⟩
     ·rw [stP_turn hn hk]; exact ⟨fun h => h.1, fun h => ⟨h, hk⟩⟩)⟩, rfl, rfl, hz⟩
 refine z6 ?_
 refine x_if rfl (fun h4 => ?_) (fun h4 => ?_)
 ·
  refine z4 ?_
  refine lD one_p_runs_Set_int hw ?_
  refine z2 ?_
  refine x_call rfl rfl trivial cal_runs_Set_int_Add rfl (ct_runs_Set_int_Add (lo := n) (hi := n) (hw.b [blk fq _ _, row 232 _ _ _ _]) (Int.le_refl _) (by unfold RunOk; simp only; omega) hrs.2 (show rr.length ≤ 100000 by omega)) rfl (fun w v65 hv => ?_)
  obtain ⟨-, fv', hw⟩ := hv
  refine xl_nil ?_
  have hz := hw.b [blk q _ _, row 3 1 _ _ _, row 4 _ _ _ _, blk fq _ _]
  exact end0 rfl rfl ⟨rfl, ⟨.slice (some ⟨cb, 0, none⟩) c.length cc, lv, fq, fv', av, addR rr n n, as'⟩, ⟨acs, (by rw [addR_ins (Int.le_refl _) rs]; exact insR_ok _ _ _ _ (Int.le_refl _) rs hn1), fun k => (by
     show inR (addR rr n n) k ↔ stP (turnC c n b) l k = 1
     rw [addR_ins (Int.le_refl _) rs, insR_in _ _ _ _ (Int.le_refl _) rs, fr]
     by_cases hk : k = n
     ·subst hk; rw [← hsn]
      exact ⟨fun _ => h4, fun _ => .inl ⟨Int.le_refl _, Int.le_refl _⟩⟩
     ·rw [stP_turn hn hk]; exact ⟨fun h => h.resolve_left (by omega), .inr⟩)⟩, rfl, rfl, hz⟩
 refine x_skip ?_
 have hz := hw.b [blk q _ _, row 3 1 _ _ _, row 4 _ _ _ _, blk fq _ _]
 exact end0 rfl rfl ⟨rfl, ⟨.slice (some ⟨cb, 0, none⟩) c.length cc, lv, fq, fv, av, rr, as'⟩, ⟨acs, rs, fun k => (by
     show inR rr k ↔ stP (turnC c n b) l k = 1
     rw [fr]
     by_cases hk : k = n
     ·subst hk; rw [← hsn, ← hsb]
      exact ⟨fun h => absurd h h2, fun h => absurd h h4⟩
     ·rw [stP_turn hn hk])⟩, rfl, rfl, hz⟩
end
theorem row_cap {T z m c : Nat} {A : Option Addr} {xs : List Value} {G : Gh} {L : List Assn} {w : World} (hw : Sat G (row T z (.slice A m c) m xs :: L) w) : m ≤ c := by
 obtain ⟨hh, ⟨_, h | ⟨b, cap, cur, hv, _, h1, _, _⟩⟩, _⟩ := assn_out hw
 ·cases h.1; omega
 cases hv; exact h1
theorem row_cut {T m c j : Nat} {A : Option Addr} {xs : List Value} {G : Gh} {L : List Assn} {w : World} (hw : Sat G (row T 1 (.slice A m c) m xs :: L) w) (hj : j ≤ m) : Sat G (row T 1 (.slice A j c) j (xs.take j) :: L) w := by
 refine hw.cons_mono fun h ⟨hl, hh⟩ => ?_
 rw [Nat.mul_one] at hl
 refine ⟨by rw [List.length_take]; omega, ?_⟩
 rcases hh with ⟨h1, h2⟩ | ⟨b, cap, cur, hv, hb, h1, h2, h3⟩
 ·subst h2; have : j = 0 := by omega
  subst this; exact .inl ⟨h1, rfl⟩
 cases hv
 refine .inr ⟨b, c, xs.drop j ++ cur, rfl, ?_, by omega, h2, ?_⟩
 ·rw [← List.append_assoc, List.take_append_drop]; exact hb
 rw [← List.append_assoc, List.take_append_drop]; exact h3
theorem paO_snoc {q : Nat} {acs : List Box3} {a : Box3} {G : Gh} {R : List Assn} {w : World} (hw : Sat G (paO q acs :: blk a.1.1 [.pointer (some ⟨q, 0, none⟩)] 34 :: blk a.1.2.1 [.int .i64 a.2.1] 3 :: blk a.1.2.2 [.int .i64 a.2.2] 3 :: R) w) : Sat G (paO q (acs ++ [a]) :: R) w := by
 have h := hw.both_snoc.both_snoc.both_snoc
 have e : (acs ++ [a]).flatMap (paParts q) = acs.flatMap (paParts q) ++ [blk a.1.1 [.pointer (some ⟨q, 0, none⟩)] 34] ++ [blk a.1.2.1 [.int .i64 a.2.1] 3] ++ [blk a.1.2.2 [.int .i64 a.2.2] 3] := by
  simp [List.flatMap_append, paParts]
 unfold paO; rw [e]; exact h
theorem paO_take {q : Nat} {acs : List Box3} {G : Gh} {R : List Assn} {w : World} (hw : Sat G (paO q acs :: R) w) (j : Nat) : Sat G (paO q (acs.take j) :: R) w := by
 refine hw.cons_mono fun h hh => ?_
 have e : acs.flatMap (paParts q) = (acs.take j).flatMap (paParts q) ++ (acs.drop j).flatMap (paParts q) := by rw [← List.flatMap_append, List.take_append_drop]
 have h1 : all ((acs.take j).flatMap (paParts q) ++ (acs.drop j).flatMap (paParts q)) h := by rw [← e]; exact hh
 obtain ⟨x1, x2, _, hu, h2, _⟩ := (all_append _ _ _).2 h1
 exact all_mono (fun b o hb => hu b o (union_left hb)) h2
theorem paO_cells {q : Nat} {acs : List Box3} {a : Box3} {L R : List Assn} (ha : a ∈ acs) (hp : Pick (paO q acs) L R) : Knows L fun w =>
  w.cell? ⟨a.1.1, 0, none⟩ = some (.pointer (some ⟨q, 0, none⟩)) ∧ w.cell? ⟨a.1.2.1, 0, none⟩ = some (.int .i64 a.2.1) ∧ w.cell? ⟨a.1.2.2, 0, none⟩ = some (.int .i64 a.2.2) := by
 have k : Knows (paParts q a) fun w => w.cell? ⟨a.1.1, 0, none⟩ = some (.pointer (some ⟨q, 0, none⟩)) ∧ w.cell? ⟨a.1.2.1, 0, none⟩ = some (.int .i64 a.2.1) ∧ w.cell? ⟨a.1.2.2, 0, none⟩ = some (.int .i64 a.2.2) :=
  fun g w hw => ⟨cell_blk hw .here, cell_blk hw (.there .here), cell_blk hw (.there (.there .here))⟩
 obtain ⟨B, C, rfl⟩ := List.append_of_mem ha
 exact ((k.both_mem (M := (B ++ a :: C).flatMap (paParts q)) (B := B.flatMap (paParts q)) (C := C.flatMap (paParts q)) (by simp)).head _).pick hp
theorem low_of {P : Po} {m : PoV} (h : PoF P m) : P.low = m.rs.head?.map (·.1) := by
 cases hr : m.rs with
 | nil =>
  rcases low_spec (c := P.c) (l := P.l) with ⟨n, _, _, h2, _⟩ | ⟨h1, _⟩
  ·have := (h.fr n).2 h2
   rw [hr] at this; exact absurd this inR_nil
  exact h1
 | cons x r =>
  have hrs := h.rs
  rw [hr] at hrs
  have hh := inR_head hrs
  have h1 := (h.fr x.1).1 (by rw [hr]; exact hh.1)
  rcases low_spec (c := P.c) (l := P.l) with ⟨n, h0, _, h2, h3⟩ | ⟨_, h2⟩
  ·have h4 := h3 _ h1
   have h5 := hh.2 n (by have := (h.fr n).2 h2; rw [hr] at this; exact this)
   have : n = x.1 := by omega
   subst this; exact h0
  exact absurd h1 (h2 _)
def Po.incE (P : Po) (n : Int) : Int := if P.cnt n = 0 then 15 else if P.cnt n = P.refs then 13 else 0
def Po.inc (P : Po) (n : Int) : Po := if P.incE n = 0 then P.act n 1 else P
def Po.dec (P : Po) (n : Int) : Po := if P.cnt n = 0 then P else P.act n (-1)
def Po.alloc (P : Po) : Po := match P.low with | some n => P.act n 1 | none => P
theorem cntP_there {c : List Int} {n : Int} (h : cntP c n ≠ 0) : thereP c n := by
 unfold cntP at h
 split at h
 ·assumption
 exact absurd rfl h
theorem cntP_eq {c : List Int} {n : Int} (h : thereP c n) : cntP c n = c.getD (n - 1).toNat 0 := by unfold cntP; rw [if_pos h]
section
variable {G : Gh} {L R : List Assn} {w : World}
theorem ct_poA_Count {q : Nat} {P : Po} {n : Int} (hw : Sat G (poA q P :: L) w) (hok : P.Ok) : Calls Tryz.prog 52 #[.pointer (some ⟨q, 0, none⟩), .int .i64 n] w (Ret fun u w' => u = .int .i64 (P.cnt n) ∧ Sat G (poA q P :: L) w') := by
 obtain ⟨m, hf, hw⟩ := poA_open hw
 exact ret_mono (ct_pool_Pool_Count hw hok.len) fun v w' h => ⟨h.1, poA_shut hf h.2⟩
theorem ct_poA_State {q : Nat} {P : Po} {n : Int} (hw : Sat G (poA q P :: L) w) (hok : P.Ok) : Calls Tryz.prog 133 #[.pointer (some ⟨q, 0, none⟩), .int .i64 n] w (Ret fun u w' => u = .int .i64 (P.st n) ∧ Sat G (poA q P :: L) w') := by
 obtain ⟨m, hf, hw⟩ := poA_open hw
 exact ret_mono (ct_pool_Pool_State hw hok.len hok.last) fun v w' h => ⟨h.1, poA_shut hf h.2⟩
theorem ct_poA_Len {q : Nat} {P : Po} (hw : Sat G (poA q P :: L) w) : Calls Tryz.prog 59 #[.pointer (some ⟨q, 0, none⟩)] w (Ret fun u w' => u = .int .i64 P.c.length ∧ Sat G (poA q P :: L) w') := by
 obtain ⟨m, hf, hw⟩ := poA_open hw
 exact ret_mono (ct_pool_Pool_Len hw) fun v w' h => ⟨h.1, poA_shut hf h.2⟩
theorem ct_poA_Mark {q : Nat} {P : Po} (hw : Sat G (poA q P :: L) w) (hpf : 0 ≤ P.pf ∧ P.pf + P.pa.length ≤ 1000000000000000) : Calls Tryz.prog 129 #[.pointer (some ⟨q, 0, none⟩)] w (Ret fun u w' => u = .int .i64 P.mark ∧ Sat G (poA q P :: L) w') := by
 obtain ⟨m, hf, hw⟩ := poA_open hw
 obtain ⟨a, c, hav⟩ := row_form (hw.pick (A := row 227 1 m.av _ _) pK)
 exact ret_mono (ct_pool_Pool_Mark hw ⟨a, c, hav⟩ hpf) fun v w' h => ⟨h.1, poA_shut hf h.2⟩
theorem ct_poA_Counts {q : Nat} {P : Po} (hw : Sat G (poA q P :: L) w) (hok : P.Ok) : Calls Tryz.prog 8 #[.pointer (some ⟨q, 0, none⟩)] w (Ret fun u w' => Sat G (row 3 1 u P.c.length (ints P.c) :: poA q P :: L) w') := by
 obtain ⟨m, hf, hw⟩ := poA_open hw
 exact ret_mono (ct_pool_Pool_Counts hw hok.len) fun v w' h => (poA_shut hf (h.b [blk q _ _, row 3 1 m.cv P.c.length (ints P.c), row 4 _ _ _ _, blk m.fq _ _, row 232 _ _ _ _, row 227 _ _ _ _, paO q m.acs])).b [row 3 1 v _ _, poA q P]
end
section
variable {G : Gh} {L R : List Assn} {w : World}
theorem ct_pool_Pool_act {q : Nat} {P : Po} {n b : Int} (hw : Sat G (poA q P :: L) w) (hok : P.Ok) (hn : thereP P.c n) (hb : b = 1 ∨ b = -1) (hsz : P.pa.length ≤ 10000000000000) :
  Calls Tryz.prog 130 #[.pointer (some ⟨q, 0, none⟩), .int .i64 n, .int .i64 b] w (Ret fun r w' => r = .tuple #[] ∧ Sat G (poA q (P.act n b) :: L) w') := by
 obtain ⟨m, hf, hw⟩ := poA_open hw
 have hcn := hok.cnt n
 have hrf := hok.refs
 unfold Po.cnt at hcn
 rw [cntP_eq hn] at hcn
 refine calls_of_x (args := [_, _, _]) Tryz.func130 rfl Tryz.ntmps130 rfl rfl ?_
 refine z2 ?_
 refine x_box rfl rfl trivial rfl rfl hw rfl (fun w b3 hw => ?_)
 refine x_box rfl rfl trivial rfl rfl hw rfl (fun w b4 hw => ?_)
 refine x_box rfl rfl trivial rfl rfl hw rfl (fun w b5 hw => ?_)
 refine z3 ?_
 refine lD one_p_pool_Pool hw ?_
 refine lD one_int hw ?_
 refine lD one_int hw ?_
 refine x_call rfl rfl trivial cal_pool_Pool_turn rfl (ct_pool_Pool_turn (P := P) (m := m) (b := b) (hw.b [blk q _ _, row 3 1 _ _ _, row 4 _ _ _ _, blk m.fq _ _, row 232 _ _ _ _, row 227 _ _ _ _, paO q m.acs]) hf hok.len hok.last hn hb (by omega)) rfl (fun w v9 hv => ?_)
 obtain ⟨rfl, m', hf', has, hav, hw⟩ := hv
 refine xl_nil ?_
 refine x_draw [0, 1, 2, 3, 4, 5, 6, 7, 8, 9, 10, 11] mixed (by kernel_rfl) ?_
 replace hw := hw.drawn (w.drawn + 1)
 refine lD one_p_pool_Pool hw ?_
 refine lD one_p_pool_Pool hw ?_
 refine z2 ?_
 refine lD one_sl_pool_act hw ?_
 refine x_mkf (v1 := #[]) (v2 := #[.pointer (some ⟨b3, 0, none⟩), .pointer (some ⟨b4, 0, none⟩), .pointer (some ⟨b5, 0, none⟩)]) rfl rfl trivial (by intro z hz; simp at hz; rcases hz with rfl | rfl | rfl <;> exact ⟨_, rfl⟩) (by simp) (by simp only [List.map_toArray, List.map_cons, List.map_nil]; rfl) ?_
 refine x_build (v := .agg #[paCell ((b3, b4, b5), (n, b))]) rfl rfl trivial rfl (fun w => by kernel_rfl) ?_
 refine x_bs1P rfl rfl trivial U_sl_pool_act sz_pool_act zs_pool_act (by decide) rfl rfl rfl hw (fun w b17 hw q' hq => ?_) (fun w b17 hw => ?_)
 ·
  have hq := pend_mem (l := [4, 1, 0]) (by kernel_rfl) hq
  simp only [List.mem_cons, List.not_mem_nil, or_false] at hq
  rcases hq with rfl | rfl | rfl
  ·exact chk_ld rfl rfl rfl (Loads.blk1 one_sl_pool_act hw pK rfl)
  ·exact chk_ld rfl rfl rfl (Loads.blk1 one_p_pool_Pool hw pK rfl)
  exact chk_ld rfl rfl rfl (Loads.blk1 one_p_pool_Pool hw pK rfl)
 refine x_appP (m := P.pa.length) (k := 1) (news := [paCell ((b3, b4, b5), (n, b))]) rfl rfl trivial U_sl_pool_act sz_pool_act by_pool_act zs_pool_act rfl rfl hw pK (Rd.blk0 hw pK) rfl (by intro u hu; simp at hu; subst hu; rfl) (by simp only [maxLen]; omega) (by omega) (fun w v18 hw q' hq => ?_) (fun w v18 hw => ?_)
 ·
  have hq := pend_mem (l := [0]) (by kernel_rfl) hq
  simp only [List.mem_cons, List.not_mem_nil, or_false] at hq
  subst hq
  exact chk_ld rfl rfl rfl (Loads.blk1 one_p_pool_Pool hw pK rfl)
 obtain ⟨va, vc, rfl⟩ := row_form hw
 refine z2 ?_
 refine x_st1 (l' := [_, _, _, _, _, _, _, _, _, _, _]) rfl trivial rfl rfl one_sl_pool_act rfl hw pK rfl rfl (by kernel_rfl) (fun w hw => ?_)
 refine xl_nil ?_
 have hz := hw.b [paO q m'.acs, blk b3 _ _, blk b4 _ _, blk b5 _ _]
 have hz := paO_snoc (a := ((b3, b4, b5), (n, b))) hz
 have hz := hz.b [blk q _ _, row 3 1 _ _ _, row 4 _ _ _ _, blk m'.fq _ _, row 232 _ _ _ _, row 227 _ _ _ _, paO q _, blk b17 _ _]
 exact end0 rfl rfl ⟨rfl, poA_shut (m := ⟨m'.cv, m'.lv, m'.fq, m'.fv, .slice va (P.pa.length + 1) vc, m'.rs, m'.acs ++ [((b3, b4, b5), (n, b))]⟩) ⟨by simp only [List.map_append, hf'.acs]; rfl, hf'.rs, hf'.fr⟩ (by
  have e1 : (m'.acs ++ [((b3, b4, b5), (n, b))]).map paCell = m'.acs.map paCell ++ [paCell ((b3, b4, b5), (n, b))] := by simp
  have e2 : (P.act n b).pa.length = P.pa.length + 1 := by simp [Po.act]
  unfold poP poR
  rw [e1, e2]
  exact hz.b [blk q _ _, row 3 1 _ _ _, row 4 _ _ _ _, blk m'.fq _ _, row 232 _ _ _ _, row 227 _ _ _ _, paO q _] |>.drop (A := blk b17 _ _) pK)⟩
end
theorem row_spot {T z m c : Nat} {A : Option Addr} {xs : List Value} {G : Gh} {L : List Assn} {w : World} (hw : Sat G (row T z (.slice A m c) m xs :: L) w) : ∀ a, A = some a → a.spot = none := by
 obtain ⟨hh, ⟨_, h | ⟨b, cap, cur, hv, _, h1, _, _⟩⟩, _⟩ := assn_out hw
 ·cases h.1; intro a ha; cases ha
 cases hv; intro a ha; cases ha; rfl
section
variable {P : Program} {n : Nat} {ops : Array Oper} {dr : Bool} {done r : List Nat} {K : Env → World → Prop} {e : Env} {w : World} {i d : Nat} {t s : TypeId} {p : String} {af : Array Edge} {g : Option (Nat × Bool)} {x : Operand} {a : Int}
theorem x_negi (ho : ops[i]? = some ⟨some d, .unOp .neg s x, t, p, af, g⟩) (hd : Nat.blt d n = true) (hg : Gd ops e g) (hx : ev e x = some (.int .i64 a)) (hb : -9223372036854775807 ≤ a ∧ a ≤ 9223372036854775807)
  (h : XL P n ops dr (i :: done) r K ((d, .int .i64 (-a)) :: e) w) : XL P n ops dr done (i :: r) K e w := x_neg ho hd hg hx (by rw [wrap64 (by omega), Int.zero_sub]; exact h)
end
section
variable {G : Gh} {L R : List Assn} {w : World}
theorem ct_pool_Pool_Alloc {q : Nat} {P : Po} (hw : Sat G (poA q P :: L) w) (hok : P.Ok) (hsz : P.pa.length ≤ 10000000000000) :
  Calls Tryz.prog 143 #[.pointer (some ⟨q, 0, none⟩)] w (Ret fun r w' => (P.low = none ∧ r = .tuple #[.int .i64 0, .int .i64 12] ∧ Sat G (poA q P :: L) w') ∨ (∃ n, P.low = some n ∧ r = .tuple #[.int .i64 n, .int .i64 0] ∧ Sat G (poA q (P.act n 1) :: L) w')) := by
 obtain ⟨m, hf, hw⟩ := poA_open hw
 have hlow := low_of hf
 refine calls_of_x (args := [_]) Tryz.func143 rfl Tryz.ntmps143 rfl rfl ?_
 refine z10 ?_
 refine lD one_p_runs_Set_int hw ?_
 refine x_call rfl rfl trivial cal_runs_Set_int_Lowest rfl (ct_runs_Set_int_Lowest (hw.b [blk m.fq _ _, row 232 _ _ _ _])) rfl (fun w v11 hv => ?_)
 obtain ⟨rfl, hw⟩ := hv
 have hw := hw.b [blk q _ _, row 3 1 _ _ _, row 4 _ _ _ _, blk m.fq _ _, row 232 _ _ _ _, row 227 _ _ _ _, paO q m.acs]
 have hw := poA_shut hf hw
 have hv : ∃ (n : Int) (b : Bool), lowR m.rs = .tuple #[.int .i64 n, .bool b] ∧ ((b = false ∧ P.low = none) ∨ (b = true ∧ P.low = some n)) := by
  cases hr : m.rs with
  | nil => rw [hr] at hlow; exact ⟨0, false, rfl, .inl ⟨rfl, hlow⟩⟩
  | cons x r => rw [hr] at hlow; exact ⟨x.1, true, rfl, .inr ⟨rfl, hlow⟩⟩
 obtain ⟨n, b, hlr, hb⟩ := hv
 rw [hlr]
 refine z10 ?_
 refine x_not rfl rfl trivial rfl ?_
 refine xl_nil ?_
 refine x_cond rfl (fun h1 => ?_) (fun h1 => ?_)
 ·
  have hb := hb.resolve_right (fun h => by rw [h.1] at h1; simp at h1)
  refine z6 ?_
  exact end2 rfl rfl rfl rfl (.inl ⟨hb.2, rfl, hw⟩)
 obtain ⟨rfl, hlo⟩ := hb.resolve_left (fun h => by rw [h.1] at h1; simp at h1)
 refine z5 ?_
 refine x_call rfl rfl trivial cal_pool_Pool_act rfl (ct_pool_Pool_act (b := 1) hw hok (by
 rcases low_spec (c := P.c) (l := P.l) with ⟨k, h0, h2, _, _⟩ | ⟨h0, _⟩
 ·have : k = n := by have := h0.symm.trans hlo; simpa using this
  subst this; exact h2
 ·rw [show P.low = none from h0] at hlo; cases hlo) (.inl rfl) hsz) rfl (fun w v18 hv => ?_)
 obtain ⟨rfl, hw⟩ := hv
 refine z8 ?_
 exact end2 rfl rfl rfl rfl (.inr ⟨n, hlo, rfl, hw⟩)
theorem ct_pool_Pool_Inc {q : Nat} {P : Po} {n : Int} (hw : Sat G (poA q P :: L) w) (hok : P.Ok) (hsz : P.pa.length ≤ 10000000000000) :
  Calls Tryz.prog 72 #[.pointer (some ⟨q, 0, none⟩), .int .i64 n] w (Ret fun r w' => r = .int .i64 (P.incE n) ∧ Sat G (poA q (P.inc n) :: L) w') := by
 refine calls_of_x (args := [_, _]) Tryz.func72 rfl Tryz.ntmps72 rfl rfl ?_
 refine z9 ?_
 refine x_call rfl rfl trivial cal_pool_Pool_Count rfl (ct_poA_Count hw hok) rfl (fun w v7 hv => ?_)
 obtain ⟨rfl, hw⟩ := hv
 refine z7 ?_
 refine x_if rfl (fun h1 => ?_) (fun h1 => ?_)
 ·
  refine z5 ?_
  exact end1 rfl rfl rfl (by
 have e : P.incE n = 15 := if_pos h1
 unfold Po.inc; rw [e]; exact ⟨rfl, hw⟩)
 obtain ⟨m, hf, hw⟩ := poA_open hw
 refine z5 ?_
 refine lD one_int hw ?_
 refine z3 ?_
 refine x_if rfl (fun h2 => ?_) (fun h2 => ?_)
 ·
  refine z5 ?_
  exact end1 rfl rfl rfl (by
 have e : P.incE n = 13 := by unfold Po.incE; rw [if_neg h1, if_pos h2]
 unfold Po.inc; rw [e]; exact ⟨rfl, poA_shut hf hw⟩)
 have hw := poA_shut hf hw
 have e : P.incE n = 0 := by unfold Po.incE; rw [if_neg h1, if_neg h2]
 refine z5 ?_
 refine x_call rfl rfl trivial cal_pool_Pool_act rfl (ct_pool_Pool_act (b := 1) hw hok (cntP_there h1) (.inl rfl) hsz) rfl (fun w v18 hv => ?_)
 obtain ⟨rfl, hw⟩ := hv
 refine z6 ?_
 exact end1 rfl rfl rfl (by unfold Po.inc; rw [e]; exact ⟨rfl, hw⟩)
theorem ct_pool_Pool_Dec {q : Nat} {P : Po} {n : Int} (hw : Sat G (poA q P :: L) w) (hok : P.Ok) (hsz : P.pa.length ≤ 10000000000000) :
  Calls Tryz.prog 131 #[.pointer (some ⟨q, 0, none⟩), .int .i64 n] w (Ret fun r w' => r = .tuple #[.int .i64 (if P.cnt n = 0 then 0 else P.cnt n - 1), .int .i64 (if P.cnt n = 0 then 15 else 0)] ∧ Sat G (poA q (P.dec n) :: L) w') := by
 refine calls_of_x (args := [_, _]) Tryz.func131 rfl Tryz.ntmps131 rfl rfl ?_
 refine z10 ?_
 refine x_call rfl rfl trivial cal_pool_Pool_Count rfl (ct_poA_Count hw hok) rfl (fun w v8 hv => ?_)
 obtain ⟨rfl, hw⟩ := hv
 refine z2 ?_
 refine x_if rfl (fun h1 => ?_) (fun h1 => ?_)
 ·
  refine z6 ?_
  exact end2 rfl rfl rfl rfl (by unfold Po.dec; rw [if_pos h1, if_pos h1, if_pos h1]; exact ⟨rfl, hw⟩)
 have hth := cntP_there h1
 have hcn := hok.cnt n
 refine z5 ?_
 refine x_call rfl rfl trivial cal_pool_Pool_act rfl (ct_pool_Pool_act (b := -1) hw hok hth (.inr rfl) hsz) rfl (fun w v12 hv => ?_)
 obtain ⟨rfl, hw⟩ := hv
 have hok' := hok.act (b := -1) hth (.inr rfl) (by have : P.cnt n ≠ 0 := h1; omega)
 refine z5 ?_
 refine x_call rfl rfl trivial cal_pool_Pool_Count rfl (ct_poA_Count (n := n) hw hok') rfl (fun w v15 hv => ?_)
 have e : (P.act n (-1)).cnt n = P.cnt n - 1 := by
  unfold Po.cnt Po.act
  simp only
  rw [cntP_eq (turnC_there.2 hth), cntP_eq hth, turnC_get hth, if_pos rfl]; rfl
 rw [e] at hv
 obtain ⟨rfl, hw⟩ := hv
 refine z4 ?_
 exact end2 rfl rfl rfl rfl (by unfold Po.dec; rw [if_neg h1, if_neg h1, if_neg h1]; exact ⟨rfl, hw⟩)
theorem ct_pool_Pool_act_1 {q b1 b2 b3 : Nat} {n b : Int} {P : Po} {m : PoV} (hw : Sat G (poP q P m L) w) (hf : PoF P m) (ha : ((b1, b2, b3), (n, b)) ∈ m.acs) (hl : P.c.length ≤ 65536) (hll : P.l.length = P.c.length) (hn : thereP P.c n) (hb : b = 1 ∨ b = -1) (hc : -1000000 ≤ P.c.getD (n - 1).toNat 0 ∧ P.c.getD (n - 1).toNat 0 ≤ 1000000) :
  Calls Tryz.prog 164 #[.pointer (some ⟨b1, 0, none⟩), .pointer (some ⟨b2, 0, none⟩), .pointer (some ⟨b3, 0, none⟩)] w (Ret fun r w' => r = .tuple #[] ∧ ∃ m', PoF { P with c := turnC P.c n (-b) } m' ∧ m'.acs = m.acs ∧ m'.av = m.av ∧ Sat G (poP q { P with c := turnC P.c n (-b) } m' L) w') := by
 have hbx : w.cell? ⟨b1, 0, none⟩ = some (.pointer (some ⟨q, 0, none⟩)) ∧ w.cell? ⟨b2, 0, none⟩ = some (.int .i64 n) ∧ w.cell? ⟨b3, 0, none⟩ = some (.int .i64 b) := (paO_cells ha (L := [paO q m.acs]) .here).at ((hw.pick (A := paO q m.acs) pK).head)
 refine calls_of_x (args := [_, _, _]) Tryz.func164 rfl Tryz.ntmps164 rfl rfl ?_
 refine z1 ?_
 refine x_ld rfl rfl trivial rfl (Loads.one one_p_pool_Pool hbx.1) ?_
 refine x_ld rfl rfl trivial rfl (Loads.one one_int hbx.2.1) ?_
 refine x_ld rfl rfl trivial rfl (Loads.one one_int hbx.2.2) ?_
 refine x_negi rfl rfl trivial rfl (by omega) ?_
 refine x_call rfl rfl trivial cal_pool_Pool_turn rfl (ct_pool_Pool_turn (b := -b) hw hf hl hll hn (by omega) hc) rfl (fun w v7 hv => ?_)
 refine xl_nil ?_
 exact end0 rfl rfl ⟨rfl, hv.2⟩
theorem ct_pool_Pool_Undo {q : Nat} {P : Po} {mk : Int} (hw : Sat G (poA q P :: L) w) (hok : P.Ok) (hpf : 0 ≤ P.pf ∧ P.pf + P.pa.length ≤ 1000000000000000) : Calls Tryz.prog 140 #[.pointer (some ⟨q, 0, none⟩), .int .i64 mk] w (Ret fun r w' =>
  (¬ (P.pf ≤ mk ∧ mk ≤ P.mark) ∧ r = .bool false ∧ Sat G (poA q P :: L) w') ∨ (P.pf ≤ mk ∧ mk ≤ P.mark ∧ r = .bool true ∧ Sat G (poA q (P.undo (mk - P.pf).toNat) :: L) w')) := by
 obtain ⟨m, hf, hw⟩ := poA_open hw
 obtain ⟨aa, ac, hav⟩ := row_form (hw.pick (A := row 227 1 m.av _ _) pK)
 have hcap : P.pa.length ≤ ac := by
  have h := hw.pick (A := row 227 1 m.av _ _) pK
  rw [hav] at h; exact row_cap h
 have hsp : ∀ a, aa = some a → a.spot = none := by
  have h := hw.pick (A := row 227 1 m.av _ _) pK
  rw [hav] at h; exact row_spot h
 have hasl : m.acs.length = P.pa.length := by have := congrArg List.length hf.acs; simpa using this
 refine calls_of_x (args := [_, _]) Tryz.func140 rfl Tryz.ntmps140 rfl rfl ?_
 refine z11 ?_
 refine lD (v := .int .i64 P.pf) one_int hw ?_
 refine z2 ?_
 refine xl_split (d := 12) rfl (fun h1 => ?_) (fun h1 => ?_)
 ·
  refine z6 ?_
  refine x_cond_true rfl ?_
  refine z5 ?_
  exact end1 rfl rfl rfl (.inl ⟨by omega, rfl, poA_shut hf hw⟩)
 refine z2 ?_
 refine x_call rfl rfl ⟨_, rfl, rfl⟩ cal_pool_Pool_Mark rfl (ct_pool_Pool_Mark hw ⟨aa, ac, hav⟩ hpf) rfl (fun w v15 hv => ?_)
 obtain ⟨rfl, hw⟩ := hv
 refine z3 ?_
 refine x_if rfl (fun h2 => ?_) (fun h2 => ?_)
 ·
  have h2' : P.pf + P.pa.length < mk := h2
  refine z5 ?_
  exact end1 rfl rfl rfl (.inl ⟨by unfold Po.mark; omega, rfl, poA_shut hf hw⟩)
 have h2' : ¬ P.pf + P.pa.length < mk := h2
 refine z7 ?_
 refine x_ld rfl rfl trivial rfl (Loads.blk1 (v := .slice aa P.pa.length ac) one_sl_pool_act hw pK (by show some m.av = _; rw [hav])) ?_
 refine x_len rfl rfl trivial (by kernel_rfl) U_sl_pool_act rfl ?_
 refine z4 ?_
 obtain ⟨as0, has0⟩ : ∃ x, x = m.acs := ⟨_, rfl⟩
 obtain ⟨av0, hav0⟩ : ∃ x, x = m.av := ⟨_, rfl⟩
 have hun : undoC P.c (P.pa.drop P.pa.length) = P.c := by rw [List.drop_length]; rfl
 refine x_loop (fun m e w => ∃ (j : Nat) (m' : PoV), (mk - P.pf).toNat ≤ j ∧ j ≤ P.pa.length ∧ m = j + 1 ∧ e = [(0, .pointer (some ⟨q, 0, none⟩)), (1, .int .i64 mk), (5, .int .i64 ((j : Int) - 1))] ∧ (PoF { P with c := undoC P.c (P.pa.drop j) } m' ∧ m'.acs = as0 ∧ m'.av = av0) ∧ Sat G (poP q { P with c := undoC P.c (P.pa.drop j) } m' L) w)
  (m := P.pa.length + 1) (e₀ := [(0, .pointer (some ⟨q, 0, none⟩)), (1, .int .i64 mk), (5, .int .i64 ((P.pa.length : Int) - 1))]) sB
  ⟨P.pa.length, m, by omega, Nat.le_refl _, rfl, rfl, ⟨by rw [hun]; exact hf, has0.symm, hav0.symm⟩, by rw [hun]; exact hw⟩ ?_
 rintro m e w ⟨j, m', hj1, hj2, rfl, rfl, ⟨hf', has', hav'⟩, hw⟩
 refine z8 ?_
 refine lD (v := .int .i64 P.pf) one_int hw ?_
 refine z3 ?_
 refine x_if rfl (fun h3 => ?_) (fun h3 => ?_)
 ·
  have hj : (mk - P.pf).toNat < j := by omega
  obtain ⟨⟨⟨b1, b2, b3⟩, n, b⟩, ha⟩ : ∃ a, as0[j - 1]? = some a := ⟨_, List.getElem?_eq_getElem (by rw [has0]; omega)⟩
  obtain ⟨a, hae⟩ : ∃ a : Box3, a = ((b1, b2, b3), (n, b)) := ⟨_, rfl⟩
  rw [← hae] at ha
  have hpa : P.pa[j - 1]? = some (n, b) := by rw [← hf.acs, List.getElem?_map, ← has0, ha, hae]; rfl
  have hacs := hok.acts _ (List.mem_of_getElem? hpa)
  obtain ⟨-, ab, _, hab, -⟩ := row_some (m := P.pa.length) (A := aa) (c := ac) (by have h := hw.pick (A := row 227 1 m'.av _ _) pK; rw [hav', hav0, hav] at h; exact h) (by omega)
  subst hab
  have hrow : SlV (.slice (some ⟨ab, 0, none⟩) P.pa.length ac) (as0.map paCell) w := by
   have h := (rowVs (cs := m'.acs.map paCell) (T := 227) (n := P.pa.length) (v := m'.av) (by rw [List.length_map, has', has0, hasl]) pK).at hw
   rw [has', hav', hav0, hav] at h; exact h
  refine z7 ?_
  refine x_ld rfl rfl trivial rfl (Loads.blk1 (v := .slice (some ⟨ab, 0, none⟩) P.pa.length ac) one_sl_pool_act hw pK (by show some m'.av = _; rw [hav', hav0, hav])) ?_
  refine z1 ?_
  refine x_idx1 rfl rfl trivial U_sl_pool_act sz_pool_act rfl rfl ⟨by omega, by omega⟩ ?_
  refine x_fldk rfl rfl trivial fo_pool_act_0 rfl ?_
  refine x_ld rfl rfl trivial rfl (Loads.one (v := .func (.func 164) #[] #[.pointer (some ⟨b1, 0, none⟩), .pointer (some ⟨b2, 0, none⟩), .pointer (some ⟨b3, 0, none⟩)]) one_func (hrow.at (by rw [show ((j : Int) - 1).toNat = j - 1 by omega, List.getElem?_map, ha, hae]; rfl))) ?_
  refine x_callv rfl rfl trivial rfl cal_pool_Pool_act_1 rfl rfl (ct_pool_Pool_act_1 (b1 := b1) (b2 := b2) (b3 := b3) (n := n) (b := b) hw hf' (by rw [has', ← hae]; exact List.mem_of_getElem? ha) (by rw [undoC_length]; exact hok.len) (by rw [undoC_length]; exact hok.last) (by unfold thereP at hacs ⊢; rw [undoC_length]; exact hacs.1) hacs.2 (by
     have hlt : (n - 1).toNat < (undoC P.c (P.pa.drop j)).length := by rw [undoC_length]; unfold thereP at hacs; omega
     have := hok.hist j hj2 _ (List.getElem_mem hlt)
     have hr := hok.refs
     rw [List.getD_eq_getElem?_getD, List.getElem?_eq_getElem hlt]
     show _ ≤ (undoC P.c (P.pa.drop j))[_] ∧ (undoC P.c (P.pa.drop j))[_] ≤ _
     omega)) rfl (fun w v42 hv => ?_)
  obtain ⟨rfl, m2, hf2, has2, hav2, hw⟩ := hv
  have hst : turnC (undoC P.c (P.pa.drop j)) n (-b) = undoC P.c (P.pa.drop (j - 1)) := by
   have := drop_cons hpa
   rw [this, show j - 1 + 1 = j by omega]; rfl
  rw [hst] at hf2 hw
  refine z6 ?_
  exact ⟨j - 1 + 1, by omega, [(0, _), (1, _), (5, .int .i64 (((j - 1 : Nat) : Int) - 1))], by rw [show (((j - 1 : Nat) : Int) - 1) = (j : Int) - 1 - 1 by omega]; exact sB, j - 1, m2, by omega, by omega, rfl, rfl, ⟨hf2, by rw [has2]; exact has', by rw [hav2]; exact hav'⟩, hw⟩
 have hj : j = (mk - P.pf).toNat := by omega
 refine z2 ?_
 refine x_draw [0, 1, 2, 3, 4, 5, 6, 7, 8, 9, 10, 11, 12, 13, 14] mixed (by kernel_rfl) ?_
 replace hw := hw.drawn (w.drawn + 1)
 refine z4 ?_
 refine x_ld rfl rfl trivial rfl (Loads.blk1 (v := .slice aa P.pa.length ac) one_sl_pool_act hw pK (by show some m'.av = _; rw [hav', hav0, hav])) ?_
 refine z4 ?_
 refine lD (v := .int .i64 P.pf) one_int hw ?_
 refine z1 ?_
 refine x_cutH rfl rfl trivial U_sl_pool_act szs_pool_act rfl hsp rfl ⟨by omega, by omega⟩ ?_
 refine z2 ?_
 refine x_st1 (l' := [_, _, _, _, _, _, _, _, _, _, _]) rfl trivial rfl rfl one_sl_pool_act rfl hw pK rfl rfl (by kernel_rfl) (fun w hw => ?_)
 refine z6 ?_
 exact end1 rfl rfl rfl (.inr ⟨by omega, by unfold Po.mark; omega, rfl, by
 have hz := hw.b [row 227 _ _ _ _]
 rw [hav', hav0, hav] at hz
 have hz := row_cut hz hj2
 have hz := hz.b [paO q m'.acs]
 have hz := paO_take hz j
 have hz := hz.b [blk q _ _, row 3 1 _ _ _, row 4 _ _ _ _, blk m'.fq _ _, row 232 _ _ _ _, row 227 _ _ _ _, paO q _]
 rw [← hj]
 refine poA_shut (P := P.undo j) (m := ⟨m'.cv, m'.lv, m'.fq, m'.fv, .slice aa j ac, m'.rs, m'.acs.take j⟩) ⟨?_, hf'.rs, hf'.fr⟩ ?_
 ·show (m'.acs.take j).map (·.2) = P.pa.take j
  rw [List.map_take, hf'.acs]
 ·have e : (P.undo j).pa.length = j := by simp only [Po.undo, List.length_take]; omega
  unfold poP poR
  rw [e, List.map_take]
  have ej : ((mk - P.pf).toNat) = j := hj.symm
  rw [ej] at hz
  exact hz⟩)
end
abbrev WasV := Int × PgV × Bool
def wasC (x : WasV) : List Value := .int .i64 x.1 :: x.2.1.cells ++ [.bool x.2.2]
theorem wasC_z (l : List WasV) : ∀ r ∈ l.map wasC, r.length = 7 := fun r hr => by obtain ⟨x, _, rfl⟩ := List.mem_map.1 hr; rfl
def WasOk (S : List PgV) (y : WasV) : Prop := (y.2.2 = true → y.2.1 ∈ S) ∧ (y.2.2 = false → y.2.1 = pgZ)
theorem WasOk.app {S : List PgV} {y : WasV} (h : WasOk S y) (T : List PgV) : WasOk (S ++ T) y := ⟨fun e => List.mem_append_left _ (h.1 e), h.2⟩
def wasP (x : WasV) : Int × Option Pg := (x.1, if x.2.2 = true then some x.2.1.pg else none)
abbrev ActV := Int × Value × List WasV
def actC (a : ActV) : List Value := [.int .i64 a.1, a.2.1]
theorem actC_z (l : List ActV) : ∀ r ∈ l.map actC, r.length = 2 := fun r hr => by obtain ⟨x, _, rfl⟩ := List.mem_map.1 hr; rfl
abbrev wasO (a : ActV) : Assn := row 212 7 a.2.1 a.2.2.length (a.2.2.map wasC).flatten
def actP (a : ActV) : Int × List (Int × Option Pg) := (a.1, a.2.2.map wasP)
structure VaV where
 q : Nat
 om : Nat
 av : Value
 on : List (Int × PgV)
 S : List PgV
 acs : List ActV
abbrev vaP (vq : Nat) (V : Va) (m : VaV) (L : List Assn) : List Assn := blk vq (vtC m.q m.om m.av V.vf) 38 :: mapI m.om (onKV m.on) :: stO m.S :: row 170 2 m.av m.acs.length (m.acs.map actC).flatten :: both (m.acs.map wasO) :: poA m.q V.po :: L
structure VaF (V : Va) (m : VaV) : Prop where
 on : ∀ n, (onF m.on n).map PgV.pg = V.on n
 onS : ∀ n p, onF m.on n = some p → p ∈ m.S
 sm : ∀ p ∈ m.S, p.Sm
 acs : m.acs.map actP = V.va
 acsS : ∀ a ∈ m.acs, ∀ x ∈ a.2.2, WasOk m.S x
def vaA (vq : Nat) (V : Va) : Assn := ex fun m : VaV => lift (VaF V m) (both (vaP vq V m []))
theorem vaA_open {vq : Nat} {V : Va} {G : Gh} {L : List Assn} {w : World} (h : Sat G (vaA vq V :: L) w) : ∃ m, VaF V m ∧ Sat G (vaP vq V m L) w := by
 obtain ⟨m, h⟩ := h.ex_out
 obtain ⟨hf, h⟩ := h.lift_out
 exact ⟨m, hf, h.both_out⟩
theorem vaA_shut {vq : Nat} {V : Va} {m : VaV} {G : Gh} {L : List Assn} {w : World} (hf : VaF V m) (h : Sat G (vaP vq V m L) w) : Sat G (vaA vq V :: L) w :=
 Sat.ex_in m (Sat.lift_in hf (Sat.both_in (M := vaP vq V m []) h))
structure VwV where
 m : VaV
 sv : Value
 ws : List WasV
abbrev vwP (vq b : Nat) (mk : Int) (x : Vw) (m : VwV) (L : List Assn) : List Assn := blk b [.int .i64 mk, m.sv] 170 :: row 212 7 m.sv m.ws.length (m.ws.map wasC).flatten :: vaP vq x.v m.m L
structure VwF (x : Vw) (m : VwV) : Prop where
 f : VaF x.v m.m
 ws : m.ws.map wasP = x.was
 wsS : ∀ y ∈ m.ws, WasOk m.m.S y
def vwA (vq b : Nat) (mk : Int) (x : Vw) : Assn := ex fun m : VwV => lift (VwF x m) (both (vwP vq b mk x m []))
theorem vwA_open {vq b : Nat} {mk : Int} {x : Vw} {G : Gh} {L : List Assn} {w : World} (h : Sat G (vwA vq b mk x :: L) w) : ∃ m, VwF x m ∧ Sat G (vwP vq b mk x m L) w := by
 obtain ⟨m, h⟩ := h.ex_out
 obtain ⟨hf, h⟩ := h.lift_out
 exact ⟨m, hf, h.both_out⟩
theorem vwA_shut {vq b : Nat} {mk : Int} {x : Vw} {m : VwV} {G : Gh} {L : List Assn} {w : World} (hf : VwF x m) (h : Sat G (vwP vq b mk x m L) w) : Sat G (vwA vq b mk x :: L) w :=
 Sat.ex_in m (Sat.lift_in hf (Sat.both_in (M := vwP vq b mk x m []) h))
theorem pgZ_ones : Ones pgZ.cells := by intro u hu; simp only [pgZ, PgV.cells, List.mem_cons, List.not_mem_nil, or_false] at hu; rcases hu with rfl | rfl | rfl | rfl | rfl <;> rfl
theorem on_look {V : Va} {m : VaV} (hf : VaF V m) (n : Int) {G : Gh} {L R : List Assn} {w : World} (hw : Sat G L w) (hp : Pick (stO m.S) L R) : ∃ (p0 : PgV) (b0 : Bool),
  (klook (onKV m.on) n).getD (.agg pgZ.cells.toArray) = .agg p0.cells.toArray ∧ (klook (onKV m.on) n).isSome = b0 ∧ Ones p0.cells ∧ (if b0 = true then some p0.pg else none) = V.on n ∧ (b0 = true → p0 ∈ m.S) ∧ (b0 = false → p0 = pgZ) ∧ p0.pg = V.pg n := by
 have hon := hf.on n
 rw [klook_on]
 cases h : onF m.on n with
 | none => rw [h] at hon; exact ⟨pgZ, false, rfl, rfl, pgZ_ones, hon, (fun h => by cases h), fun _ => rfl, by unfold Va.pg; rw [← hon]; rfl⟩
 | some p =>
  rw [h] at hon
  have hS := hf.onS n p h
  exact ⟨p, true, rfl, rfl, ones_pg (stO_ok hS (hf.sm p hS) hp) hw, hon, fun _ => hS, (fun h => by cases h), by unfold Va.pg; rw [← hon]; rfl⟩
theorem onF_put {on : List (Int × PgV)} {n : Int} {p : PgV} : ∃ on', onKV on' = kput (onKV on) n (.agg p.cells.toArray) ∧ ∀ k, onF on' k = if k = n then some p else onF on k := by
 induction on with
 | nil => exact ⟨[(n, p)], rfl, fun k => by
   unfold onF
   by_cases h : k = n
   ·subst h; simp
   ·have h2 : (n == k) = false := by simpa using fun e => h e.symm
    simp [h, h2]⟩
 | cons x on ih =>
  obtain ⟨on', h1, h2⟩ := ih
  by_cases hx : x.1 = n
  ·refine ⟨(n, p) :: on, ?_, fun k => ?_⟩
   ·simp only [onKV, List.map_cons, kput]
    rw [if_pos hx.symm, hx]
   unfold onF
   simp only [List.find?_cons]
   by_cases h : k = n
   ·subst h; simp
   have e1 : (n == k) = false := by simpa using fun e => h e.symm
   have e2 : (x.1 == k) = false := by rw [hx]; exact e1
   simp [h, e1, e2]
  refine ⟨x :: on', ?_, fun k => ?_⟩
  ·simp only [onKV, List.map_cons, kput] at h1 ⊢
   rw [if_neg (fun e => hx e.symm), h1]
  have h3 := h2 k
  unfold onF at h3 ⊢
  simp only [List.find?_cons]
  by_cases h : x.1 = k
  ·have e1 : (x.1 == k) = true := by simpa using h
   have : ¬ k = n := fun e => hx (h.trans e)
   simp [e1, this]
  have e1 : (x.1 == k) = false := by simpa using h
  simp only [e1]
  exact h3
theorem onF_del {on : List (Int × PgV)} (hn : ((onKV on).map (·.1)).Nodup) {n : Int} : ∃ on', onKV on' = kdel (onKV on) n ∧ ∀ k, onF on' k = if k = n then none else onF on k := by
 induction on with
 | nil => exact ⟨[], rfl, fun k => by unfold onF; simp⟩
 | cons x on ih =>
  have hn2 : x.1 ∉ (onKV on).map (·.1) ∧ ((onKV on).map (·.1)).Nodup := by simpa [onKV] using hn
  by_cases hx : x.1 = n
  ·refine ⟨on, ?_, fun k => ?_⟩
   ·simp only [onKV, List.map_cons, kdel]
    rw [if_pos hx.symm]
   unfold onF
   simp only [List.find?_cons]
   by_cases h : k = n
   ·subst h
    rw [if_pos rfl]
    have : on.find? (fun y => y.1 == k) = none := by
     rw [List.find?_eq_none]
     intro y hy
     have : y.1 ≠ k := fun e => hn2.1 (by rw [hx, ← e, onKV_keys]; exact List.mem_map.2 ⟨y, hy, rfl⟩)
     simpa using this
    rw [this]; rfl
   have e2 : (x.1 == k) = false := by simpa using fun e => h (e.symm.trans hx)
   rw [if_neg h]
   simp [e2]
  obtain ⟨on', h1, h2⟩ := ih hn2.2
  refine ⟨x :: on', ?_, fun k => ?_⟩
  ·simp only [onKV, List.map_cons, kdel] at h1 ⊢
   rw [if_neg (fun e => hx e.symm), h1]
  have h3 := h2 k
  unfold onF at h3 ⊢
  simp only [List.find?_cons]
  by_cases h : x.1 = k
  ·have e1 : (x.1 == k) = true := by simpa using h
   have : ¬ k = n := fun e => hx (h.trans e)
   simp [e1, this]
  have e1 : (x.1 == k) = false := by simpa using h
  simp only [e1]
  exact h3
theorem mapI_nodup {m : Nat} {kv : KV} {G : Gh} {L R : List Assn} {w : World} (hw : Sat G L w) (hp : Pick (mapI m kv) L R) : (kv.map (·.1)).Nodup := by
 obtain ⟨es, ck, hf, _⟩ := mapI_open (hw.pick hp)
 exact hf.keys
theorem VwF.len {x : Vw} {m : VwV} (h : VwF x m) : m.ws.length = x.was.length := by have := congrArg List.length h.ws; simpa using this
section
variable {G : Gh} {L R : List Assn} {w : World}
theorem ct_vault_Vault_note {vq b : Nat} {mk n : Int} {x : Vw} (hw : Sat G (vwA vq b mk x :: L) w) (hsz : x.was.length ≤ 1000000000000) :
  Calls Tryz.prog 165 #[.pointer (some ⟨vq, 0, none⟩), .pointer (some ⟨b, 0, none⟩), .int .i64 n] w (Ret fun r w' => r = .tuple #[] ∧ Sat G (vwA vq b mk (x.note n) :: L) w') := by
 obtain ⟨m, hf, hw⟩ := vwA_open hw
 have hlen := hf.len
 obtain ⟨p0, b0, hp0, hb0, hone, hlk, hS, hZ, -⟩ := on_look hf.f n hw (L := vwP vq b mk x m L) pK
 refine calls_of_x (args := [_, _, _]) Tryz.func165 rfl Tryz.ntmps165 rfl rfl ?_
 refine z5 ?_
 refine lD one_m_int_api_Page hw ?_
 refine z1 ?_
 refine x_lk2 (v0 := .agg p0.cells.toArray) (b0 := b0) rfl rfl trivial U_m_int_api_Page U_int zv_api_Page rfl rfl hw pK hp0 hb0 ?_
 refine z3 ?_
 refine x_alloc rfl rfl trivial z_api_Page hw rfl (fun w b6 hw => ?_)
 refine x_stN (cs := p0.cells) (l' := p0.cells) rfl trivial rfl rfl many_api_Page rfl hone hw pK (by simp [PgV.cells]) rfl rfl (fun w hw => ?_)
 refine z2 ?_
 refine x_draw [0, 1, 2, 3, 4, 5, 6, 7, 8, 9, 10, 11, 12, 13] mixed (by kernel_rfl) ?_
 replace hw := hw.drawn (w.drawn + 1)
 refine z4 ?_
 refine lD one_sl_vault_was hw ?_
 refine z1 ?_
 refine lA many_api_Page hw ?_
 refine z1 ?_
 refine x_build (v := .agg (wasC (n, p0, b0)).toArray) rfl rfl trivial rfl (fun w => by kernel_rfl) ?_
 refine x_bs1P rfl rfl trivial U_sl_vault_was sz_vault_was zs_vault_was (by decide) rfl rfl rfl hw (fun w b26 hw q' hq => ?_) (fun w b26 hw => ?_)
 ·
  have hq := pend_mem (l := [4]) (by kernel_rfl) hq
  simp only [List.mem_cons, List.not_mem_nil, or_false] at hq
  subst hq
  exact chk_ld rfl rfl rfl (Loads.blk1 one_sl_vault_was hw pK rfl)
 refine x_app (m := m.ws.length) (k := 1) (news := wasC (n, p0, b0)) rfl rfl trivial U_sl_vault_was sz_vault_was by_vault_was zs_vault_was rfl rfl hw pK (Rd.blk0 hw pK) rfl (by intro u hu; unfold wasC at hu; rcases List.mem_cons.1 hu with rfl | hu; rfl; rcases List.mem_append.1 hu with hu | hu; exact hone u hu; simp at hu; subst hu; rfl) (by simp only [maxLen]; omega) (by omega) (by kernel_rfl) (fun w v27 hw => ?_)
 obtain ⟨va, vc, rfl⟩ := row_form hw
 refine z2 ?_
 refine x_st1 (l' := [_, _]) rfl trivial rfl rfl one_sl_vault_was rfl hw pK rfl rfl (by kernel_rfl) (fun w hw => ?_)
 refine xl_nil ?_
 have hz := (hw.b [blk b6 _ _, blk b26 _ _, blk b _ _, row 212 _ _ _ _, blk vq _ _]).tail.tail
 refine end0 rfl rfl ⟨rfl, vwA_shut (x := x.note n) (m := ⟨m.m, .slice va (m.ws.length + 1) vc, m.ws ++ [(n, p0, b0)]⟩) ⟨hf.f, ?_, ?_⟩ ?_⟩
 ·show (m.ws ++ [(n, p0, b0)]).map wasP = x.was ++ [(n, x.v.on n)]
  rw [List.map_append, hf.ws, ← hlk]; rfl
 ·intro y hy
  rcases List.mem_append.1 hy with hy | hy
  ·exact hf.wsS y hy
  simp at hy; subst hy; exact ⟨hS, hZ⟩
 have e : ((m.ws ++ [(n, p0, b0)]).map wasC).flatten = (m.ws.map wasC).flatten ++ wasC (n, p0, b0) := by simp
 unfold vwP
 simp only [e, List.length_append, List.length_singleton]
 exact hz
theorem ct_vault_Vault_put {vq b : Nat} {mk n : Int} {x : Vw} {p : PgV} (hw : Sat G (vwA vq b mk x :: pgO p :: L) w) (hp : p.Sm) (hsz : x.was.length ≤ 1000000000000) :
  Calls Tryz.prog 144 #[.pointer (some ⟨vq, 0, none⟩), .pointer (some ⟨b, 0, none⟩), .int .i64 n, .agg p.cells.toArray] w (Ret fun r w' => r = .tuple #[] ∧ Sat G (vwA vq b mk (x.put n (some p.pg)) :: L) w') := by
 refine calls_of_x (args := [_, _, _, _]) Tryz.func144 rfl Tryz.ntmps144 rfl rfl ?_
 refine z2 ?_
 refine x_box rfl rfl trivial rfl rfl hw rfl (fun w b7 hw => ?_)
 refine z6 ?_
 refine x_call rfl rfl trivial cal_vault_Vault_note rfl (ct_vault_Vault_note (n := n) (hw.b [vwA vq b mk x]) hsz) rfl (fun w v11 hv => ?_)
 obtain ⟨rfl, hw⟩ := hv
 obtain ⟨m, hf, hw⟩ := vwA_open hw
 refine xl_nil ?_
 refine x_draw [0, 1, 2, 3, 4, 5, 6] mixed (by kernel_rfl) ?_
 replace hw := hw.drawn (w.drawn + 1)
 refine z3 ?_
 refine lD one_m_int_api_Page hw ?_
 refine z1 ?_
 refine lA many_api_Page hw ?_
 refine x_mu rfl trivial U_m_int_api_Page U_int rfl rfl rfl hw pK (by kernel_rfl) (fun w hw => ?_)
 refine xl_nil ?_
 obtain ⟨on', he1, he2⟩ := onF_put (on := m.m.on) (n := n) (p := p)
 rw [← he1] at hw
 have hz := (hw.b [stO m.m.S, pgO p]).both_snoc
 have e : m.m.S.map pgO ++ [pgO p] = (m.m.S ++ [p]).map pgO := by simp
 rw [e] at hz
 have hz := (hz.b [blk b7 _ _, blk b _ _, row 212 _ _ _ _, blk vq _ _, mapI _ _, both ((m.m.S ++ [p]).map pgO), row 170 _ _ _ _, both _, poA _ _]).tail
 refine end0 rfl rfl ⟨rfl, vwA_shut (x := x.put n (some p.pg)) (m := ⟨⟨m.m.q, m.m.om, m.m.av, on', m.m.S ++ [p], m.m.acs⟩, m.sv, m.ws⟩) ⟨⟨?_, ?_, ?_, hf.f.acs, ?_⟩, hf.ws, ?_⟩ hz⟩
 ·intro k
  show (onF on' k).map PgV.pg = upd x.v.on n (some p.pg) k
  rw [he2]; unfold upd
  split
  ·rfl
  exact hf.f.on k
 ·intro k q hq
  rw [he2] at hq
  split at hq
  ·simp at hq; subst hq; exact List.mem_append_right _ (List.mem_singleton.2 rfl)
  exact List.mem_append_left _ (hf.f.onS k q hq)
 ·intro q hq
  rcases List.mem_append.1 hq with hq | hq
  ·exact hf.f.sm q hq
  simp at hq; subst hq; exact hp
 ·exact fun a ha y hy => (hf.f.acsS a ha y hy).app _
 exact fun y hy => (hf.wsS y hy).app _
theorem ct_vault_Vault_free {vq b : Nat} {mk n : Int} {x : Vw} (hw : Sat G (vwA vq b mk x :: L) w) (hok : x.v.po.Ok) (hsz : x.was.length ≤ 1000000000000) :
  Calls Tryz.prog 132 #[.pointer (some ⟨vq, 0, none⟩), .pointer (some ⟨b, 0, none⟩), .int .i64 n] w (Ret fun r w' => r = .tuple #[] ∧ Sat G (vwA vq b mk (x.free n) :: L) w') := by
 obtain ⟨m, hf, hw⟩ := vwA_open hw
 refine calls_of_x (args := [_, _, _]) Tryz.func132 rfl Tryz.ntmps132 rfl rfl ?_
 refine z5 ?_
 refine lD one_p_pool_Pool hw ?_
 refine z1 ?_
 refine x_call rfl rfl trivial cal_pool_Pool_State rfl (ct_poA_State (n := n) (hw.b [poA m.m.q x.v.po]) hok) rfl (fun w v11 hv => ?_)
 obtain ⟨rfl, hw⟩ := hv
 have hw := vwA_shut hf (hw.b [blk b _ _, row 212 _ _ _ _, blk vq _ _, mapI _ _, stO _, row 170 _ _ _ _, both (m.m.acs.map wasO), poA _ _])
 refine z2 ?_
 refine x_if rfl (fun h1 => ?_) (fun h1 => ?_)
 ·
  have hfr : x.free n = x.put n none := by unfold Vw.free Va.st; rw [if_pos h1]
  refine z5 ?_
  refine x_call rfl rfl trivial cal_vault_Vault_note rfl (ct_vault_Vault_note (n := n) hw hsz) rfl (fun w v16 hv => ?_)
  obtain ⟨rfl, hw⟩ := hv
  clear hf
  obtain ⟨m, hf, hw⟩ := vwA_open hw
  have hnd := mapI_nodup hw (m := m.m.om) (kv := onKV m.m.on) pK
  refine z5 ?_
  refine lD one_m_int_api_Page hw ?_
  refine z1 ?_
  refine x_del rfl trivial rfl U_m_int_api_Page U_int rfl rfl hw pK rfl (fun w hw => ?_)
  refine xl_nil ?_
  obtain ⟨on', he1, he2⟩ := onF_del hnd (n := n)
  rw [← he1] at hw
  rw [hfr]
  have hz := hw.b [blk b _ _, row 212 _ _ _ _, blk vq _ _]
  refine end0 rfl rfl ⟨rfl, vwA_shut (x := x.put n none) (m := ⟨⟨m.m.q, m.m.om, m.m.av, on', m.m.S, m.m.acs⟩, m.sv, m.ws⟩) ⟨⟨?_, ?_, hf.f.sm, hf.f.acs, hf.f.acsS⟩, hf.ws, hf.wsS⟩ hz⟩
  ·intro k
   show (onF on' k).map PgV.pg = upd x.v.on n none k
   rw [he2]; unfold upd
   split
   ·rfl
   exact hf.f.on k
  intro k q hq
  rw [he2] at hq
  split at hq
  ·cases hq
  exact hf.f.onS k q hq
 have hfr : x.free n = x := by unfold Vw.free Va.st; rw [if_neg h1]
 refine x_skip ?_
 exact end0 rfl rfl ⟨rfl, by rw [hfr]; exact hw⟩
end
def BPre (l : List WasV) (k : Nat) (args : List Value) (_ : List Assn) : Prop := ∃ x, l[l.length - 1 - k]? = some x ∧ args = [.int .i64 ((l.length : Int) - 1 - k), .agg (wasC x).toArray]
theorem was_ones {S : List PgV} {y : WasV} (h : WasOk S y) (hs : ∀ p ∈ S, p.Sm) {G : Gh} {L R : List Assn} {w : World} (hw : Sat G L w) (hp : Pick (stO S) L R) : Ones (wasC y) := by
 have hc : Ones y.2.1.cells := by
  cases hb : y.2.2 with
  | true => exact ones_pg (stO_ok (h.1 hb) (hs _ (h.1 hb)) hp) hw
  | false => rw [h.2 hb]; exact pgZ_ones
 intro u hu
 unfold wasC at hu
 rcases List.mem_cons.1 hu with rfl | hu
 ·rfl
 rcases List.mem_append.1 hu with hu | hu
 ·exact hc u hu
 simp at hu; subst hu; rfl
def backV (V : Va) (was : List (Int × Option Pg)) (k : Nat) : Va := { V with on := undoOn V.on (was.drop (was.length - k)) }
theorem backV_step {V : Va} {was : List (Int × Option Pg)} {k : Nat} {x : Int × Option Pg} (hk : k < was.length) (hx : was[was.length - 1 - k]? = some x) : backV V was (k + 1) = { V with on := upd (backV V was k).on x.1 x.2 } := by
 unfold backV
 have h1 : was.length - (k + 1) = was.length - 1 - k := by omega
 rw [h1, drop_cons hx, show was.length - 1 - k + 1 = was.length - k by omega]
 rfl
abbrev vbP (vq : Nat) (V : Va) (m : VaV) (L : List Assn) : List Assn := blk vq (vtC m.q m.om m.av V.vf) 38 :: mapI m.om (onKV m.on) :: stO m.S :: poA m.q V.po :: L
structure VaG (V : Va) (m : VaV) : Prop where
 on : ∀ n, (onF m.on n).map PgV.pg = V.on n
 onS : ∀ n p, onF m.on n = some p → p ∈ m.S
 sm : ∀ p ∈ m.S, p.Sm
theorem VaF.g {V : Va} {m : VaV} (h : VaF V m) : VaG V m := ⟨h.on, h.onS, h.sm⟩
abbrev bkB (vq b2 : Nat) (V : Va) (m : VaV) : Assn := ex fun on : List (Int × PgV) => lift (VaG V { m with on := on }) (both (blk b2 [.pointer (some ⟨vq, 0, none⟩)] 28 :: vbP vq V { m with on := on } []))
theorem bk_open {vq b2 : Nat} {V : Va} {m : VaV} {G : Gh} {L : List Assn} {w : World} (h : Sat G (bkB vq b2 V m :: L) w) : ∃ on, VaG V { m with on := on } ∧ Sat G (blk b2 [.pointer (some ⟨vq, 0, none⟩)] 28 :: vbP vq V { m with on := on } L) w := by
 obtain ⟨on, h⟩ := h.ex_out
 obtain ⟨hf, h⟩ := h.lift_out
 exact ⟨on, hf, h.both_out⟩
theorem bk_shut {vq b2 : Nat} {V : Va} {m : VaV} {on : List (Int × PgV)} {G : Gh} {L : List Assn} {w : World} (hf : VaG V { m with on := on }) (h : Sat G (blk b2 [.pointer (some ⟨vq, 0, none⟩)] 28 :: vbP vq V { m with on := on } L) w) : Sat G (bkB vq b2 V m :: L) w :=
 Sat.ex_in on (Sat.lift_in hf (Sat.both_in (M := blk b2 [.pointer (some ⟨vq, 0, none⟩)] 28 :: vbP vq V { m with on := on } []) h))
section
variable {G : Gh} {L R : List Assn} {w : World}
theorem ct_slices_Backward_vault_was_vault_was {a : Option Addr} {n c : Nat} (hw : Sat G L w) : Calls Tryz.prog 141 #[.slice a n c] w (Ret fun r w' => ∃ b1, r = .func (.func 172) #[] #[.pointer (some ⟨b1, 0, none⟩)] ∧ Sat G (blk b1 [.slice a n c] 168 :: L) w') := by
 refine calls_of_x (args := [_]) Tryz.func141 rfl Tryz.ntmps141 rfl rfl ?_
 refine z2 ?_
 refine x_box rfl rfl trivial rfl rfl hw rfl (fun w b1 hw => ?_)
 refine z4 ?_
 refine x_mkf (v1 := #[]) (v2 := #[.pointer (some ⟨b1, 0, none⟩)]) rfl rfl trivial (by intro z hz; simp at hz; subst hz; exact ⟨_, rfl⟩) (by simp) (by simp only [List.map_toArray, List.map_cons, List.map_nil]; rfl) ?_
 refine z3 ?_
 exact end1 rfl rfl rfl ⟨b1, rfl, hw⟩
theorem it_Backward_was {l : List WasV} {v : Value} {b1 : Nat} (kl : Knows L (SlT 7 v (l.map wasC))) (hll : l.length ≤ 10000000000000) : Iter Tryz.prog 172 [.pointer (some ⟨b1, 0, none⟩)] G (blk b1 [v] 168 :: L) w l.length (BPre l) (blk b1 [v] 168 :: L) := by
 intro lq J Jx w hy hw
 obtain ⟨sa, sc, h1, -, -⟩ := ((kl.of sF).at hw).form
 rw [List.length_map] at h1
 subst h1
 refine calls_of_x (args := [_, _]) Tryz.func172 rfl Tryz.ntmps172 rfl rfl ?_
 refine z2 ?_
 refine lD one_sl_vault_was hw ?_
 refine x_len rfl rfl trivial (by kernel_rfl) U_sl_vault_was rfl ?_
 refine z1 ?_
 have e0 : (l.length : Int) - 1 = (l.length : Int) - 1 - (0 : Nat) := by simp
 rw [e0]
 refine z3 ?_
 refine x_loop (fun m e w => ∃ k : Nat, k ≤ l.length ∧ m = l.length - k ∧ e = [(0, .func (.yield lq) #[] #[]), (1, .pointer (some ⟨b1, 0, none⟩)), (3, .int .i64 ((l.length : Int) - 1 - k))] ∧ Sat G (J k :: blk b1 [.slice sa l.length sc] 168 :: L) w)
  (m := l.length) (e₀ := [(0, .func (.yield lq) #[] #[]), (1, .pointer (some ⟨b1, 0, none⟩)), (3, .int .i64 ((l.length : Int) - 1 - (0 : Nat)))]) sB
  ⟨0, Nat.zero_le _, rfl, rfl, hw⟩ ?_
 rintro m e w ⟨k, hk, rfl, rfl, hw⟩
 refine z6 ?_
 refine x_if rfl (fun h1 => ?_) (fun h1 => ?_)
 ·
  have hk' : k < l.length := by omega
  obtain ⟨x, hx⟩ : ∃ x, l[l.length - 1 - k]? = some x := ⟨_, List.getElem?_eq_getElem (by omega)⟩
  have hxr : (l.map wasC)[l.length - 1 - k]? = some (wasC x) := by rw [List.getElem?_map, hx]; rfl
  obtain ⟨bb, oo, rfl⟩ := ((kl.of sF).at hw).nn (by rw [List.length_map]; omega)
  have hi : ((l.length : Int) - 1 - k).toNat = l.length - 1 - k := by omega
  refine z7 ?_
  refine lD one_sl_vault_was hw ?_
  refine z1 ?_
  refine x_idx rfl rfl trivial U_sl_vault_was sz_vault_was rfl rfl ⟨by omega, by omega⟩ ?_
  refine x_ld rfl rfl trivial rfl (Loads.many many_vault_was rfl (by rw [hi]; exact ((kl.of sF).at hw).at hxr)) ?_
  refine x_yield rfl rfl trivial rfl rfl (hy k _ _ w hk' ⟨x, hx, rfl⟩ hw) rfl (fun w v17 hv => ?_)
  obtain ⟨bq, rfl, hb1, hb2⟩ := yield_or hv
  refine x_not rfl rfl trivial rfl ?_
  refine xl_nil ?_
  refine x_cond rfl (fun h2 => ?_) (fun h2 => ?_)
  ·
   refine x_ret ?_
   exact end0 rfl rfl (.inr (hb2 (by simpa using h2)))
  refine z6 ?_
  have hw := hb1 (by simpa using h2)
  refine ⟨l.length - (k + 1), by omega, [(0, _), (1, _), (3, .int .i64 ((l.length : Int) - 1 - (k + 1 : Nat)))], ?_, k + 1, by omega, rfl, rfl, hw⟩
  rw [show ((l.length : Int) - 1 - (k + 1 : Nat)) = (l.length : Int) - 1 - k - 1 by omega]
  exact sB
 refine z1 ?_
 exact end0 rfl rfl (.inl (by
 have hke : k = l.length := by omega
 subst hke; exact hw))
theorem ct_vault_Vault_back {vq : Nat} {V : Va} {m : VaV} {mk : Int} {sv : Value} {ws : List WasV} (hw : Sat G (vbP vq V m L) w) (hf : VaG V m) (kw : Knows L (SlT 7 sv (ws.map wasC))) (hws : ∀ y ∈ ws, WasOk m.S y) (hll : ws.length ≤ 10000000000000) (hok : V.po.Ok) (hpf : 0 ≤ V.po.pf ∧ V.po.pf + V.po.pa.length ≤ 1000000000000000) (hmk : V.po.pf ≤ mk ∧ mk ≤ V.po.mark) :
  Calls Tryz.prog 81 #[.pointer (some ⟨vq, 0, none⟩), .agg #[.int .i64 mk, sv]] w (Ret fun r w' => r = .tuple #[] ∧ ∃ on, VaG (V.back mk (ws.map wasP)) { m with on := on } ∧ Sat G (vbP vq (V.back mk (ws.map wasP)) { m with on := on } L) w') := by
 obtain ⟨sa, sc, hsv, -, -⟩ := (kw.at (by (repeat replace hw := hw.tail); exact hw)).form
 subst hsv
 rw [List.length_map] at *
 refine calls_of_x (args := [_, _]) Tryz.func81 rfl Tryz.ntmps81 rfl rfl ?_
 refine z2 ?_
 refine x_box rfl rfl trivial rfl rfl hw rfl (fun w b2 hw => ?_)
 refine x_box rfl rfl trivial rfl rfl hw rfl (fun w b3 hw => ?_)
 refine z2 ?_
 refine x_draw [0, 1, 2, 3, 4, 5, 6] mixed (by kernel_rfl) ?_
 replace hw := hw.drawn (w.drawn + 1)
 refine lD one_p_vault_Vault hw ?_
 refine z2 ?_
 refine lD one_p_pool_Pool hw ?_
 refine z1 ?_
 refine lD one_int hw ?_
 refine x_call rfl rfl trivial cal_pool_Pool_Undo rfl (ct_pool_Pool_Undo (mk := mk) (hw.b [poA m.q V.po]) hok hpf) (by kernel_rfl) (fun w v12 hv => ?_)
 have hv := hv.resolve_left (fun h => h.1 hmk)
 obtain ⟨-, -, rfl, hw⟩ := hv
 refine z4 ?_
 refine lD one_sl_vault_was hw ?_
 refine x_call rfl rfl trivial cal_slices_Backward_vault_was_vault_was rfl (ct_slices_Backward_vault_was_vault_was hw) rfl (fun w v15 hv => ?_)
 obtain ⟨b1, rfl, hw⟩ := hv
 refine z2 ?_
 obtain ⟨V1, hV1⟩ : ∃ V1 : Va, V1 = { V with po := V.po.undo (mk - V.po.pf).toNat } := ⟨_, rfl⟩
 have hfV : VaG V1 { m with on := m.on } := by rw [hV1]; exact ⟨hf.on, hf.onS, hf.sm⟩
 have hlw : (ws.map wasP).length = ws.length := List.length_map ..
 have hz := hw.b [blk b2 _ _, blk vq _ _, mapI _ _, stO _, poA _ _, blk b1 _ _, blk b3 _ _]
 clear hw
 have hz0 : VaG (backV V1 (ws.map wasP) 0) { m with on := m.on } := by
  have : backV V1 (ws.map wasP) 0 = V1 := by unfold backV; rw [Nat.sub_zero, List.drop_length]; rfl
  rw [this]; exact hfV
 have hw : Sat G (bkB vq b2 (backV V1 (ws.map wasP) 0) m :: blk b1 _ 168 :: blk b3 _ 170 :: L) w := bk_shut hz0 (by
  have : backV V1 (ws.map wasP) 0 = V1 := by unfold backV; rw [Nat.sub_zero, List.drop_length]; rfl
  rw [this, hV1]; exact hz)
 refine x_range (e₀ := [(2, .pointer (some ⟨b2, 0, none⟩))]) (fun k => bkB vq b2 (backV V1 (ws.map wasP) k) m) (fun _ => False) [] rfl cal_slices_Backward_vault_was_vault_was_1 rfl sG rfl hw (fun k args M h => by obtain ⟨x, _, rfl⟩ := h; rfl) (it_Backward_was (l := ws) (kw.of sF) hll) ?_ ?_ ?_ ?_
 ·
  clear hw
  intro l D1 o k args M w hk hpre hw
  obtain ⟨x, hx, rfl⟩ := hpre
  obtain ⟨on, hfk, hw⟩ := bk_open hw
  have hnd := mapI_nodup hw (m := m.om) (kv := onKV on) pK
  have hxo := hws x (List.mem_of_getElem? hx)
  have hxp : (ws.map wasP)[(ws.map wasP).length - 1 - k]? = some (wasP x) := by rw [hlw, List.getElem?_map, hx]; rfl
  have hst := backV_step (V := V1) (by rw [hlw]; exact hk) hxp
  refine z1 ?_
  refine x_alloc rfl rfl trivial z_vault_was hw rfl (fun w b5 hw => ?_)
  refine x_stN (cs := wasC x) (l' := wasC x) rfl trivial rfl rfl many_vault_was rfl (was_ones hxo hf.sm hw pK) hw pK (by simp [wasC, PgV.cells]) rfl rfl (fun w hw => ?_)
  refine xl_nil ?_
  refine ⟨_, hw.pick (A := pt l o) pK, fun o' w hw => ?_⟩
  refine z4 ?_
  refine lD (v := .bool x.2.2) one_bool hw ?_
  refine xl_nil ?_
  refine x_cond rfl (fun h1 => ?_) (fun h1 => ?_)
  ·
   refine x_draw [0, 1, 2, 3, 4, 5, 6, 7, 8] mixed (by kernel_rfl) ?_
   replace hw := hw.drawn (w.drawn + 1)
   refine lD one_p_vault_Vault hw ?_
   refine z2 ?_
   refine lD one_m_int_api_Page hw ?_
   refine z1 ?_
   refine lD (v := .int .i64 x.1) one_int hw ?_
   refine z1 ?_
   refine x_ld rfl rfl trivial rfl (Loads.blkN (cs := x.2.1.cells) many_api_Page hw pK rfl rfl) ?_
   refine x_mu rfl trivial U_m_int_api_Page U_int rfl rfl rfl hw pK (by kernel_rfl) (fun w hw => ?_)
   refine xl_nil ?_
   obtain ⟨on', he1, he2⟩ := onF_put (on := on) (n := x.1) (p := x.2.1)
   rw [← he1] at hw
   have hz := (hw.b [blk b5 _ _, blk b2 _ _, blk vq _ _, mapI _ _, stO _, poA _ _]).tail
   refine bk_shut (on := on') ⟨?_, ?_, hf.sm⟩ (by rw [hst]; exact hz)
   ·intro n
    rw [hst]
    show (onF on' n).map PgV.pg = upd (backV V1 (ws.map wasP) k).on x.1 (wasP x).2 n
    rw [he2]; unfold upd wasP
    split
    ·first | rfl | (rw [h1]; rfl) | (rw [if_pos h1]; rfl)
    exact hfk.on n
   intro n q hq
   have hq : onF on' n = some q := hq
   rw [he2] at hq
   split at hq
   ·simp at hq; subst hq; exact hxo.1 h1
   exact hfk.onS n q hq
  refine x_draw [0, 1, 2, 3, 4, 5, 6] mixed (by kernel_rfl) ?_
  replace hw := hw.drawn (w.drawn + 1)
  refine lD one_p_vault_Vault hw ?_
  refine z2 ?_
  refine lD one_m_int_api_Page hw ?_
  refine z1 ?_
  refine lD (v := .int .i64 x.1) one_int hw ?_
  refine x_del rfl trivial rfl U_m_int_api_Page U_int rfl rfl hw pK (by kernel_rfl) (fun w hw => ?_)
  refine xl_nil ?_
  obtain ⟨on', he1, he2⟩ := onF_del hnd (n := x.1)
  rw [← he1] at hw
  have hz := (hw.b [blk b5 _ _, blk b2 _ _, blk vq _ _, mapI _ _, stO _, poA _ _]).tail
  refine bk_shut (on := on') ⟨?_, ?_, hf.sm⟩ (by rw [hst]; exact hz)
  ·intro n
   rw [hst]
   show (onF on' n).map PgV.pg = upd (backV V1 (ws.map wasP) k).on x.1 (wasP x).2 n
   rw [he2]; unfold upd wasP
   split
   ·simp [h1]
   exact hfk.on n
  intro n q hq
  have hq : onF on' n = some q := hq
  rw [he2] at hq
  split at hq
  ·cases hq
  exact hfk.onS n q hq
 ·
  clear hw
  intro D1 w hw
  obtain ⟨on, hfk, hw⟩ := bk_open hw
  have hfin : backV V1 (ws.map wasP) ws.length = V.back mk (ws.map wasP) := by unfold backV; rw [hlw, Nat.sub_self, List.drop_zero, hV1]; rfl
  rw [hfin] at hfk hw
  have hz := (hw.b [blk b2 _ _, dblk D1, blk b1 _ _, blk b3 _ _])
  refine bodyEnd_leave rfl ?_
  refine leave_dblk hw pK (fun w hw => ?_)
  exact leave0 rfl ⟨rfl, on, hfk, by
 have hz := (hw.b [blk b2 _ _, blk b1 _ _, blk b3 _ _]).tail.tail.tail
 exact hz⟩
 ·
  clear hw; intro D w hw; exact (assn_out hw).elim fun _ h => h.1.elim
 intro id A hA; cases hA
end
def Va.pop (V : Va) : Va := match V.va.getLast? with
 | some a => { V.back a.1 a.2 with va := V.va.dropLast }
 | none => V
def Va.popN : Nat → Va → Va
 | 0, V => V
 | k + 1, V => V.pop.popN k
structure Va.Base (V : Va) : Prop where
 po : V.po.Ok
 pf : 0 ≤ V.po.pf
 vf : 0 ≤ V.vf
 on : ∀ n p, V.on n = some p → checkP p = 0
 th : ∀ n, V.po.cnt n ≠ 0 → V.on n ≠ none
 mrk : ∀ a, V.va.getLast? = some a → V.po.pf ≤ a.1 ∧ a.1 ≤ V.po.mark
 wl : ∀ a ∈ V.va, a.2.length ≤ 1000000000000
structure Va.Ok (V : Va) : Prop extends Va.Base V where
 hist : ∀ k, k ≤ V.va.length → (V.popN k).Base
def Va.sz (V : Va) : Int := V.po.pf + V.po.pa.length + V.vf + V.va.length
def Va.done (V0 : Va) (x : Vw) : Va := { x.v with va := x.v.va ++ [(V0.po.mark, x.was)] }
def Va.mark (V : Va) : Int := V.vf + V.va.length
theorem VaF.len {V : Va} {m : VaV} (h : VaF V m) : m.acs.length = V.va.length := by have := congrArg List.length h.acs; simpa using this
theorem VwF.act {x : Vw} {m : VwV} (h : VwF x m) (n b : Int) : VwF (x.act n b) m := ⟨⟨h.f.on, h.f.onS, h.f.sm, h.f.acs, h.f.acsS⟩, h.ws, h.wsS⟩
theorem Grown.po_le {V : Va} {x : Vw} (h : Grown V x) : V.po.pf ≤ x.v.po.pf ∧ V.po.pf + V.po.pa.length ≤ x.v.po.mark ∧ x.v.po.pf ≤ V.po.mark := by
 obtain ⟨more, h1, _⟩ := h.pa
 unfold Po.mark
 rw [h.pf, h1, List.length_append]; omega
theorem Va.done_pop {V : Va} {x : Vw} (hg : Grown V x) : (V.done x).pop = V := by
 have hb := hg.back
 have h1 : (V.done x).va.getLast? = some (V.po.mark, x.was) := by unfold Va.done; simp
 unfold Va.pop
 rw [h1]
 simp only
 have h2 : (V.done x).va.dropLast = V.va := by unfold Va.done; simp [hg.va]
 rw [h2]
 have h3 : (V.done x).back V.po.mark x.was = { x.v.back V.po.mark x.was with va := (V.done x).va } := rfl
 rw [h3, hb]
theorem Va.done_ok {V : Va} {x : Vw} (hok : V.Ok) (hg : Grown V x) (hb : (V.done x).Base) : (V.done x).Ok := ⟨hb, fun k hk => by
 cases k with
 | zero => exact hb
 | succ k =>
  show ((V.done x).pop.popN k).Base
  rw [Va.done_pop hg]
  refine hok.hist k ?_
  unfold Va.done at hk
  simp only [List.length_append, List.length_singleton] at hk
  rw [hg.va] at hk; omega⟩
theorem wasRow {sv : Value} {ws : List WasV} {R : List Assn} : Knows (row 212 7 sv ws.length (ws.map wasC).flatten :: R) (SlT 7 sv (ws.map wasC)) := (SlT.row (by simp) (wasC_z ws)).head R
section
variable {G : Gh} {L R : List Assn} {w : World}
theorem ct_vault_Vault_do {vq : Nat} {V : Va} {fn : Nat} {caps : Array Value} {Q : Int → Vw → List Assn → Prop} (hw : Sat G (vaA vq V :: L) w) (hok : V.Ok) (hsz : V.sz ≤ 1000000000000) (hfn : Callable Tryz.prog fn)
  (hq : ∀ w b, Sat G (vwA vq b V.po.mark ⟨V, []⟩ :: L) w → Calls Tryz.prog fn (.pointer (some ⟨b, 0, none⟩) :: caps.toList).toArray w (Ret fun r w' => ∃ e x L', r = .int .i64 e ∧ Grown V x ∧ x.v.po.Ok ∧ x.v.sz ≤ 1000000000000000 ∧ x.was.length ≤ 1000000000000 ∧ Q e x L' ∧ Sat G (vwA vq b V.po.mark x :: L') w')) :
  Calls Tryz.prog 70 #[.pointer (some ⟨vq, 0, none⟩), .func (.func fn) #[] caps] w (Ret fun r w' => ∃ e x L', r = .int .i64 e ∧ Grown V x ∧ Q e x L' ∧ ((e ≠ 0 ∧ Sat G (vaA vq V :: L') w') ∨ (e = 0 ∧ Sat G (vaA vq (V.done x) :: L') w'))) := by
 obtain ⟨m, hf, hw⟩ := vaA_open hw
 have hpf : 0 ≤ V.po.pf ∧ V.po.pf + V.po.pa.length ≤ 1000000000000000 := ⟨hok.pf, by have := hok.vf; unfold Va.sz at hsz; omega⟩
 refine calls_of_x (args := [_, _]) Tryz.func70 rfl Tryz.ntmps70 rfl rfl ?_
 refine z9 ?_
 refine lD one_p_pool_Pool hw ?_
 refine x_call rfl rfl trivial cal_pool_Pool_Mark rfl (ct_poA_Mark (hw.b [poA m.q V.po]) hpf) rfl (fun w v11 hv => ?_)
 obtain ⟨rfl, hw⟩ := hv
 refine x_build (v := .agg #[.int .i64 V.po.mark, .slice none 0 0]) rfl rfl trivial rfl (fun w => by kernel_rfl) ?_
 refine x_alloc rfl rfl trivial z_vault_act hw rfl (fun w b5 hw => ?_)
 refine x_stN (cs := [.int .i64 V.po.mark, .slice none 0 0]) (l' := [.int .i64 V.po.mark, .slice none 0 0]) rfl trivial rfl rfl many_vault_act rfl (by intro u hu; simp at hu; rcases hu with rfl | rfl <;> rfl) hw pK (by simp) rfl rfl (fun w hw => ?_)
 have hz := (row_nil hw 212 7).b [blk b5 _ _, row 212 _ _ _ _, blk vq _ _, mapI _ _, stO _, row 170 _ _ _ _, both (m.acs.map wasO), poA _ _]
 have hw := vwA_shut (x := ⟨V, []⟩) (m := ⟨m, .slice none 0 0, []⟩) ⟨hf, rfl, (fun y hy => by cases hy)⟩ hz
 refine z5 ?_
 refine x_callv rfl rfl trivial rfl hfn rfl rfl (hq _ _ hw) rfl (fun w v14 hv => ?_)
 clear hf hw hz
 obtain ⟨e, x, L', rfl, hg, hxo, hxs, hxw, hQ, hw⟩ := hv
 obtain ⟨m', hf, hw⟩ := vwA_open hw
 have hlen := hf.len
 have hpl := hg.po_le
 have hxa : x.v.po.pf + x.v.po.pa.length ≤ 1000000000000000 ∧ m'.m.acs.length ≤ 1000000000000 ∧ 0 ≤ x.v.po.pf := by
  have h1 := hf.f.len
  have h2 := hg.va
  have h3 := hg.vf
  have h4 := hok.vf
  have h5 := hok.pf
  rw [h2] at h1
  unfold Va.sz at hxs hsz
  omega
 refine z7 ?_
 refine x_if rfl (fun h1 => ?_) (fun h1 => ?_)
 ·
  refine z3 ?_
  refine lA many_vault_act hw ?_
  refine x_call rfl rfl trivial cal_vault_Vault_back rfl (ct_vault_Vault_back (V := x.v) (m := m'.m) (mk := V.po.mark) (ws := m'.ws) (hw.b [blk vq _ _, mapI _ _, stO _, poA _ _, row 212 _ _ _ _]) hf.f.g wasRow hf.wsS (by omega) hxo ⟨hxa.2.2, hxa.1⟩ ⟨hpl.2.2, hpl.2.1⟩) rfl (fun w v19 hv => ?_)
  obtain ⟨rfl, on, hf2, hw⟩ := hv
  rw [hf.ws, hg.back] at hf2 hw
  refine z7 ?_
  exact end1 rfl rfl rfl ⟨e, x, L', rfl, hg, hQ, .inl ⟨h1, vaA_shut (m := { m'.m with on := on }) ⟨hf2.on, hf2.onS, hf2.sm, by rw [← hg.va]; exact hf.f.acs, hf.f.acsS⟩ (by
 have hz := (hw.b [row 212 _ _ _ _, blk b5 _ _, blk vq _ _, mapI _ _, stO _, row 170 _ _ _ _, both (m'.m.acs.map wasO), poA _ _]).tail.tail
 exact hz)⟩⟩
 have h1 : e = 0 := Decidable.not_not.1 h1
 subst h1
 obtain ⟨sa, sc, hsv⟩ := row_form (hw.pick (A := row 212 7 m'.sv _ _) pK)
 have hson : m'.sv.oneCell' = true := by rw [hsv]; rfl
 refine z2 ?_
 refine x_draw [0, 1, 2, 3, 4, 5, 6, 7, 8, 9, 10] mixed (by kernel_rfl) ?_
 replace hw := hw.drawn (w.drawn + 1)
 refine z4 ?_
 refine lD one_sl_vault_act hw ?_
 refine lA many_vault_act hw ?_
 refine x_bs1P rfl rfl trivial U_sl_vault_act sz_vault_act zs_vault_act (by decide) rfl rfl rfl hw (fun w b27 hw q' hq => ?_) (fun w b27 hw => ?_)
 ·
  have hq := pend_mem (l := [4]) (by kernel_rfl) hq
  simp only [List.mem_cons, List.not_mem_nil, or_false] at hq
  subst hq
  exact chk_ld rfl rfl rfl (Loads.blk1 one_sl_vault_act hw pK rfl)
 refine x_app (m := m'.m.acs.length) (k := 1) (news := [.int .i64 V.po.mark, m'.sv]) rfl rfl trivial U_sl_vault_act sz_vault_act by_vault_act zs_vault_act rfl rfl hw pK (Rd.blk0 hw pK) rfl (by intro u hu; simp at hu; rcases hu with rfl | rfl; rfl; exact hson) (by simp only [maxLen]; omega) (by omega) (by kernel_rfl) (fun w v28 hw => ?_)
 obtain ⟨va, vc, rfl⟩ := row_form hw
 refine z2 ?_
 refine x_st1 (l' := [_, _, _, _]) rfl trivial rfl rfl one_sl_vault_act rfl hw pK rfl rfl (by kernel_rfl) (fun w hw => ?_)
 refine z6 ?_
 have hz := (hw.b [both (m'.m.acs.map wasO), row 212 _ _ _ _]).both_snoc
 have hz := (hz.b [blk b27 _ _, blk b5 _ _, blk vq _ _, mapI _ _, stO _, row 170 _ _ _ _]).tail.tail
 refine end1 rfl rfl rfl ⟨0, x, L', rfl, hg, hQ, .inr ⟨rfl, vaA_shut (V := V.done x) (m := ⟨m'.m.q, m'.m.om, .slice va (m'.m.acs.length + 1) vc, m'.m.on, m'.m.S, m'.m.acs ++ [(V.po.mark, m'.sv, m'.ws)]⟩) ⟨hf.f.on, hf.f.onS, hf.f.sm, ?_, ?_⟩ ?_⟩⟩
 ·show (m'.m.acs ++ [(V.po.mark, m'.sv, m'.ws)]).map actP = x.v.va ++ [(V.po.mark, x.was)]
  rw [List.map_append, hf.f.acs, ← hf.ws]; rfl
 ·intro a ha y hy
  rcases List.mem_append.1 ha with ha | ha
  ·exact hf.f.acsS a ha y hy
  simp at ha; subst ha; exact hf.wsS y hy
 have e1 : ((m'.m.acs ++ [(V.po.mark, m'.sv, m'.ws)]).map actC).flatten = (m'.m.acs.map actC).flatten ++ actC (V.po.mark, m'.sv, m'.ws) := by simp
 have e2 : (m'.m.acs ++ [(V.po.mark, m'.sv, m'.ws)]).map wasO = m'.m.acs.map wasO ++ [wasO (V.po.mark, m'.sv, m'.ws)] := by simp
 unfold vaP
 simp only [e1, e2, List.length_append, List.length_singleton]
 exact hz
theorem ct_vault_Vault_Mark {vq : Nat} {V : Va} (hw : Sat G (vaA vq V :: L) w) (hvf : 0 ≤ V.vf ∧ V.vf + V.va.length ≤ 1000000000000000) : Calls Tryz.prog 42 #[.pointer (some ⟨vq, 0, none⟩)] w (Ret fun r w' => r = .int .i64 V.mark ∧ Sat G (vaA vq V :: L) w') := by
 obtain ⟨m, hf, hw⟩ := vaA_open hw
 have hlen := hf.len
 obtain ⟨aa, ac, hav⟩ := row_form (hw.pick (A := row 170 2 m.av m.acs.length _) pK)
 refine calls_of_x (args := [_]) Tryz.func42 rfl Tryz.ntmps42 rfl rfl ?_
 refine z5 ?_
 refine x_draw [0, 1, 2, 3, 4, 5, 6, 7, 8, 9, 10] mixed (by kernel_rfl) ?_
 replace hw := hw.drawn (w.drawn + 1)
 refine z3 ?_
 refine lD (v := .int .i64 V.vf) one_int hw ?_
 refine z3 ?_
 refine x_ld rfl rfl trivial rfl (Loads.blk1 (v := .slice aa m.acs.length ac) one_sl_vault_act hw pK (by rw [← hav]; rfl)) ?_
 refine x_len rfl rfl trivial (by kernel_rfl) U_sl_vault_act rfl ?_
 refine z4 ?_
 exact end1 rfl rfl rfl ⟨by rw [hlen]; rfl, vaA_shut hf hw⟩
end
abbrev Va.own (V : Va) (n : Int) : Prop := V.st n = 3 ∧ V.cnt n = 1
def Va.mk1 (V : Va) (p : Pg) (n : Int) : Vw := ((⟨V, []⟩ : Vw).act n 1).put n (some p)
def Va.make (V : Va) (p : Pg) : Int × Int × Va := if checkP p ≠ 0 then (0, checkP p, V) else match V.po.low with
 | none => (0, 12, V)
 | some n => (n, 0, V.done (V.mk1 p n))
def Va.wr1 (V : Va) (n : Int) (p : Pg) : Vw := (⟨V, []⟩ : Vw).put n (some p)
def Va.write (V : Va) (n : Int) (p : Pg) : Int × Va := if ¬ V.own n then (15, V) else if checkP p ≠ 0 then (checkP p, V) else (0, V.done (V.wr1 n p))
theorem low_there {P : Po} {n : Int} (h : P.low = some n) : thereP P.c n ∧ P.st n = 1 ∧ ∀ m, P.st m = 1 → n ≤ m := by
 rcases low_spec (c := P.c) (l := P.l) with ⟨k, h0, h2, h3, h4⟩ | ⟨h0, _⟩
 ·have : k = n := by have := h0.symm.trans h; simpa using this
  subst this; exact ⟨h2, h3, h4⟩
 rw [show P.low = none from h0] at h; cases h
theorem free_cnt {P : Po} (hok : P.Ok) {n : Int} (h : P.st n = 1) : P.cnt n = 0 := by
 have hc := hok.cnt n
 have hth : thereP P.c n := by
  unfold Po.st stP at h; split at h
  ·assumption
  cases h
 unfold Po.st at h
 rw [stP_st2 hth] at h
 unfold Po.cnt at hc ⊢
 rw [cntP_eq hth] at hc ⊢
 unfold st2 at h
 split at h
 ·split at h <;> cases h
 omega
structure Wk (V : Va) (k : Nat) (x : Vw) : Prop where
 g : Grown V x
 ok : x.v.po.Ok
 pa : x.v.po.pa.length ≤ V.po.pa.length + k
 was : x.was.length ≤ k
theorem Wk.mono {V : Va} {k j : Nat} {x : Vw} (h : Wk V k x) (hj : k ≤ j) : Wk V j x := ⟨h.g, h.ok, by have := h.pa; omega, by have := h.was; omega⟩
theorem Wk.refl {V : Va} (h : V.po.Ok) : Wk V 0 ⟨V, []⟩ := ⟨Grown.refl V, h, Nat.le_refl _, Nat.le_refl _⟩
theorem Wk.put {V : Va} {k : Nat} {x : Vw} (h : Wk V k x) (n : Int) (p : Option Pg) : Wk V (k + 1) (x.put n p) := ⟨h.g.put n p, h.ok, by have := h.pa; show x.v.po.pa.length ≤ _; omega, by have := h.was; simp only [Vw.put, List.length_append, List.length_singleton]; omega⟩
theorem Wk.free {V : Va} {k : Nat} {x : Vw} (h : Wk V k x) (n : Int) : Wk V (k + 1) (x.free n) := by
 unfold Vw.free; split
 ·exact h.put n none
 exact h.mono (by omega)
theorem Wk.act {V : Va} {k : Nat} {x : Vw} (h : Wk V k x) {n b : Int} (hn : thereP x.v.po.c n) (hb : b = 1 ∨ b = -1) (hc : 0 ≤ x.v.cnt n + b ∧ x.v.cnt n + b ≤ x.v.po.refs) : Wk V (k + 1) (x.act n b) := ⟨h.g.act hn, h.ok.act hn hb hc, by have := h.pa; simp only [Vw.act, Po.act, List.length_append, List.length_singleton]; omega, by have := h.was; show x.was.length ≤ _; omega⟩
theorem Wk.sz {V : Va} {k : Nat} {x : Vw} (h : Wk V k x) : x.v.sz ≤ V.sz + k ∧ (V.done x).sz ≤ V.sz + k + 1 := by
 have h1 := h.pa; have h2 := h.g.va; have h3 := h.g.vf; have h4 := h.g.pf
 unfold Va.done Va.sz
 simp only [List.length_append, List.length_singleton]
 rw [h2, h3, h4]
 omega
structure Wt (x : Vw) : Prop where
 ck : ∀ n p, x.v.on n = some p → checkP p = 0
 th : ∀ n, x.v.po.cnt n ≠ 0 → x.v.on n ≠ none
theorem Wt.refl {V : Va} (h : V.Base) : Wt ⟨V, []⟩ := ⟨h.on, h.th⟩
theorem Wk.base {V : Va} {k : Nat} {x : Vw} (hok : V.Ok) (h : Wk V k x) (ht : Wt x) (hk : k ≤ 1000000000000) : (V.done x).Base :=
 ⟨h.ok, by show 0 ≤ x.v.po.pf; rw [h.g.pf]; exact hok.pf, by show 0 ≤ x.v.vf; rw [h.g.vf]; exact hok.vf, ht.ck, ht.th, fun a ha => by
  have h1 : (V.done x).va.getLast? = some (V.po.mark, x.was) := by unfold Va.done; simp
  rw [h1] at ha; cases ha
  have := h.g.po_le
  exact ⟨this.2.2, this.2.1⟩, fun a ha => by
  have ha : a ∈ x.v.va ++ [(V.po.mark, x.was)] := ha
  rcases List.mem_append.1 ha with ha | ha
  ·rw [h.g.va] at ha; exact hok.wl a ha
  ·simp at ha; subst ha; have := h.was; show x.was.length ≤ _; omega⟩
theorem Wk.done_ok {V : Va} {k : Nat} {x : Vw} (hok : V.Ok) (h : Wk V k x) (ht : Wt x) (hk : k ≤ 1000000000000) : (V.done x).Ok := Va.done_ok hok h.g (h.base hok ht hk)
theorem cnt_turn {c : List Int} {n b : Int} (h : thereP c n) (m : Int) : cntP (turnC c n b) m = if m = n then cntP c m + b else cntP c m := by
 by_cases hm : thereP c m
 ·rw [cntP_eq (turnC_there.2 hm), cntP_eq hm, turnC_get h]
  by_cases e : m = n
  ·rw [if_pos (by rw [e]), if_pos e]
  rw [if_neg (by unfold thereP at h hm; omega), if_neg e]
 have e : ¬ m = n := fun e => hm (by rw [e]; exact h)
 rw [if_neg e]
 unfold cntP; rw [if_neg hm, if_neg (fun h => hm (turnC_there.1 h))]
theorem act_cnt {x : Vw} {n b : Int} (h : thereP x.v.po.c n) (m : Int) : (x.act n b).v.po.cnt m = if m = n then x.v.po.cnt m + b else x.v.po.cnt m := cnt_turn h m
theorem Wt.act {x : Vw} (h : Wt x) {n b : Int} (hn : thereP x.v.po.c n) (hc : x.v.po.cnt n ≠ 0) : Wt (x.act n b) := ⟨h.ck, fun m hm => by
 rw [act_cnt hn] at hm
 by_cases e : m = n
 ·subst e; exact h.th m hc
 ·rw [if_neg e] at hm; exact h.th m hm⟩
theorem Wt.putS {x : Vw} (h : Wt x) (n : Int) {p : Pg} (hp : checkP p = 0) : Wt (x.put n (some p)) := ⟨fun k q hq => by
  have hq : upd x.v.on n (some p) k = some q := hq
  unfold upd at hq
  split at hq
  ·cases hq; exact hp
  ·exact h.ck k q hq, fun k hk => by
  show upd x.v.on n (some p) k ≠ none
  unfold upd
  split
  ·simp
  ·exact h.th k hk⟩
theorem mk1_wk {V : Va} {p : Pg} {n : Int} (hok : V.Ok) (h : V.po.low = some n) : Wk V 2 (V.mk1 p n) := by
 obtain ⟨h1, h2, _⟩ := low_there h
 have h3 := free_cnt hok.po h2
 have hr := hok.po.refs
 exact ((Wk.refl hok.po).act h1 (.inl rfl) (by show 0 ≤ V.po.cnt n + 1 ∧ V.po.cnt n + 1 ≤ V.po.refs; omega)).put n (some p)
theorem mk1_wt {V : Va} {p : Pg} {n : Int} (hok : V.Ok) (h : V.po.low = some n) (hp : checkP p = 0) : Wt (V.mk1 p n) := ⟨fun k q hq => by
  have hq : upd V.on n (some p) k = some q := hq
  unfold upd at hq
  split at hq
  ·cases hq; exact hp
  ·exact hok.on k q hq, fun k hk => by
  have hk : (((⟨V, []⟩ : Vw).act n 1).v.po.cnt k) ≠ 0 := hk
  rw [act_cnt (low_there h).1] at hk
  show upd V.on n (some p) k ≠ none
  unfold upd
  split
  ·simp
  ·rename_i e
   rw [if_neg e] at hk; exact hok.th k hk⟩
theorem Va.make_ok {V : Va} {p : Pg} (hok : V.Ok) : (V.make p).2.2.Ok := by
 unfold Va.make
 by_cases hc : checkP p = 0
 ·rw [if_neg (fun h => h hc)]
  cases hl : V.po.low with
  | none => exact hok
  | some n => exact (mk1_wk hok hl).done_ok hok (mk1_wt hok hl hc) (by decide)
 rw [if_pos hc]; exact hok
theorem Va.make_sz {V : Va} {p : Pg} : (V.make p).2.2.sz ≤ V.sz + 2 := by
 unfold Va.make
 split
 ·show V.sz ≤ _; omega
 split
 ·show V.sz ≤ _; omega
 simp only [Va.sz, Va.done, Va.mk1, Vw.act, Vw.put, Po.act, List.length_append, List.length_singleton]
 omega
theorem wr1_wk {V : Va} {n : Int} {p : Pg} (hok : V.Ok) : Wk V 1 (V.wr1 n p) := (Wk.refl hok.po).put n (some p)
section
variable {G : Gh} {L R : List Assn} {w : World}
theorem ct_poA_Alloc {q : Nat} {P : Po} (hw : Sat G (poA q P :: L) w) (hok : P.Ok) (hsz : P.pa.length ≤ 10000000000000) :
  Calls Tryz.prog 143 #[.pointer (some ⟨q, 0, none⟩)] w (Ret fun r w' => ∃ n er P', r = .tuple #[.int .i64 n, .int .i64 er] ∧ ((P.low = none ∧ n = 0 ∧ er = 12 ∧ P' = P) ∨ (P.low = some n ∧ er = 0 ∧ P' = P.act n 1)) ∧ Sat G (poA q P' :: L) w') :=
 ret_mono (ct_pool_Pool_Alloc hw hok hsz) fun v w' hv => by
  rcases hv with ⟨h1, h2, h3⟩ | ⟨n, h1, h2, h3⟩
  ·exact ⟨0, 12, P, h2, .inl ⟨h1, rfl, rfl, rfl⟩, h3⟩
  exact ⟨n, 0, _, h2, .inr ⟨h1, rfl, rfl⟩, h3⟩
theorem ct_vault_Vault_Make_1 {vq b b1 b2 b3 : Nat} {mk z : Int} {V : Va} {p : PgV} (hw : Sat G (vwA vq b mk ⟨V, []⟩ :: blk b2 [.int .i64 z] 3 :: blk b1 [.pointer (some ⟨vq, 0, none⟩)] 28 :: blk b3 p.cells 75 :: L) w) (hp : p.Ok L) (hok : V.Ok) (hsz : V.sz ≤ 1000000000000) :
  Calls Tryz.prog 142 #[.pointer (some ⟨b, 0, none⟩), .pointer (some ⟨b1, 0, none⟩), .pointer (some ⟨b2, 0, none⟩), .pointer (some ⟨b3, 0, none⟩)] w (Ret fun r w' =>
   (V.po.low = none ∧ r = .int .i64 12 ∧ Sat G (vwA vq b mk ⟨V, []⟩ :: blk b2 [.int .i64 0] 3 :: blk b1 [.pointer (some ⟨vq, 0, none⟩)] 28 :: blk b3 p.cells 75 :: L) w') ∨
   (∃ n, V.po.low = some n ∧ r = .int .i64 0 ∧ Sat G (vwA vq b mk (V.mk1 p.pg n) :: blk b2 [.int .i64 n] 3 :: blk b1 [.pointer (some ⟨vq, 0, none⟩)] 28 :: blk b3 p.cells 75 :: L) w')) := by
 obtain ⟨m, hf, hw⟩ := vwA_open hw
 have hpl : V.po.pa.length ≤ 10000000000000 := by have := hok.pf; have := hok.vf; unfold Va.sz at hsz; omega
 refine calls_of_x (args := [_, _, _, _]) Tryz.func142 rfl Tryz.ntmps142 rfl rfl ?_
 refine z7 ?_
 refine lD one_p_vault_Vault hw ?_
 refine z2 ?_
 refine lD one_p_pool_Pool hw ?_
 refine x_call rfl rfl trivial cal_pool_Pool_Alloc rfl (ct_poA_Alloc (P := V.po) (hw.b [poA m.m.q V.po]) hok.po hpl) rfl (fun w v11 hv => ?_)
 obtain ⟨n, er, P', rfl, hcase, hw⟩ := hv
 refine z3 ?_
 refine x_st1 rfl trivial rfl rfl one_int rfl hw pK rfl rfl rfl (fun w hw => ?_)
 refine z7 ?_
 refine x_if rfl (fun h1 => ?_) (fun h1 => ?_)
 ·
  subst h1
  obtain ⟨hlo, -, rfl⟩ := hcase.resolve_left (fun h => by cases h.2.2.1)
  have hz := hw.b [blk b _ _, row 212 _ _ _ _, blk vq _ _, mapI _ _, stO _, row 170 _ _ _ _, both (m.m.acs.map wasO), poA _ _, blk b2 _ _, blk b1 _ _, blk b3 _ _]
  clear hw
  have hw := vwA_shut (x := (⟨V, []⟩ : Vw).act n 1) (m := m) (hf.act n 1) hz
  refine x_draw [0, 1, 2, 3, 4, 5] mixed (by kernel_rfl) ?_
  replace hw := hw.drawn (w.drawn + 1)
  refine lD one_p_vault_Vault hw ?_
  refine z1 ?_
  refine lD one_int hw ?_
  refine lA many_api_Page hw ?_
  refine x_callP rfl rfl trivial cal_vault_copied rfl (ct_vault_copied (p := p) hw (hp.of sF)) (fun w v20 hv q' hq => ?_) (fun w v20 hv => ?_)
  ·
   obtain ⟨p', rfl, hpe, hps, hw⟩ := hv
   have hq := pend_mem (l := [2, 0]) (by kernel_rfl) hq
   simp only [List.mem_cons, List.not_mem_nil, or_false] at hq
   rcases hq with rfl | rfl
   ·exact chk_ld rfl rfl rfl (Loads.blk1 one_int hw pK rfl)
   exact chk_ld rfl rfl rfl (Loads.blk1 one_p_vault_Vault hw pK rfl)
  obtain ⟨p', rfl, hpe, hps, hw⟩ := hv
  refine x_call rfl rfl trivial cal_vault_Vault_put rfl (ct_vault_Vault_put (p := p') (n := n) (hw.b [vwA vq b _ _, pgO p']) hps (Nat.zero_le _)) (by kernel_rfl) (fun w v21 hv => ?_)
  obtain ⟨rfl, hw⟩ := hv
  refine z7 ?_
  exact end1 rfl rfl rfl (.inr ⟨n, hlo, rfl, by rw [hpe] at hw; have hz := hw.b [vwA vq b _ _, blk b2 _ _, blk b1 _ _, blk b3 _ _]; exact hz⟩)
 refine z7 ?_
 exact end1 rfl rfl rfl (.inl (by
 obtain ⟨h0, rfl, rfl, rfl⟩ := hcase.resolve_right (fun h => h1 h.2.1)
 exact ⟨h0, rfl, by
  have hz := hw.b [blk b _ _, row 212 _ _ _ _, blk vq _ _, mapI _ _, stO _, row 170 _ _ _ _, both (m.m.acs.map wasO), poA _ _, blk b2 _ _, blk b1 _ _, blk b3 _ _]
  exact vwA_shut hf hz⟩))
theorem ct_vault_Vault_Make {vq : Nat} {V : Va} {p : PgV} (hw : Sat G (vaA vq V :: L) w) (hp : p.Ok L) (hok : V.Ok) (hsz : V.sz ≤ 1000000000000) :
  Calls Tryz.prog 84 #[.pointer (some ⟨vq, 0, none⟩), .agg p.cells.toArray] w (Ret fun r w' => r = .tuple #[.int .i64 (V.make p.pg).1, .int .i64 (V.make p.pg).2.1] ∧ Sat G (vaA vq (V.make p.pg).2.2 :: L) w') := by
 refine calls_of_x (args := [_, _]) Tryz.func84 rfl Tryz.ntmps84 rfl rfl ?_
 refine z2 ?_
 refine x_box rfl rfl trivial rfl rfl hw rfl (fun w b2 hw => ?_)
 refine x_box rfl rfl trivial rfl rfl hw rfl (fun w b3 hw => ?_)
 refine z6 ?_
 refine lA many_api_Page hw ?_
 refine x_call rfl rfl trivial cal_page_Check rfl (ct_page_Check (p := p) hw (hp.of sF)) rfl (fun w v10 hv => ?_)
 obtain ⟨rfl, hw⟩ := hv
 refine z7 ?_
 refine x_if rfl (fun h1 => ?_) (fun h1 => ?_)
 ·
  refine z7 ?_
  exact end2 rfl rfl rfl rfl (by
 have e : V.make p.pg = (0, checkP p.pg, V) := by unfold Va.make; rw [if_pos h1]
 rw [e]
 exact ⟨rfl, (hw.b [blk b3 _ _, blk b2 _ _]).tail.tail⟩)
 refine z3 ?_
 refine x_alloc rfl rfl trivial z_int hw rfl (fun w b7 hw => ?_)
 refine x_st1 (l' := [.int .i64 0]) rfl trivial rfl rfl one_int rfl hw pK rfl rfl rfl (fun w hw => ?_)
 refine z3 ?_
 refine lD one_p_vault_Vault hw ?_
 refine x_mkf (v1 := #[]) (v2 := #[.pointer (some ⟨b2, 0, none⟩), .pointer (some ⟨b7, 0, none⟩), .pointer (some ⟨b3, 0, none⟩)]) rfl rfl trivial (by intro z hz; simp at hz; rcases hz with rfl | rfl | rfl <;> exact ⟨_, rfl⟩) (by simp) (by simp only [List.map_toArray, List.map_cons, List.map_nil]; rfl) ?_
 refine x_call rfl rfl trivial cal_vault_Vault_do rfl (ct_vault_Vault_do (fn := 142) (caps := #[.pointer (some ⟨b2, 0, none⟩), .pointer (some ⟨b7, 0, none⟩), .pointer (some ⟨b3, 0, none⟩)]) (Q := fun e x L' => (V.po.low = none ∧ e = 12 ∧ L' = blk b7 [.int .i64 0] 3 :: blk b2 [.pointer (some ⟨vq, 0, none⟩)] 28 :: blk b3 p.cells 75 :: L) ∨ (∃ n, V.po.low = some n ∧ e = 0 ∧ x = V.mk1 p.pg n ∧ L' = blk b7 [.int .i64 n] 3 :: blk b2 [.pointer (some ⟨vq, 0, none⟩)] 28 :: blk b3 p.cells 75 :: L)) (hw.b [vaA vq V, blk b7 _ _, blk b2 _ _, blk b3 _ _]) hok hsz cal_vault_Vault_Make_1 (fun w b hw => ret_mono (ct_vault_Vault_Make_1 (p := p) hw hp hok hsz) (fun r w' h => by
 rcases h with ⟨h2, rfl, h4⟩ | ⟨n, h2, rfl, h4⟩
 ·exact ⟨12, ⟨V, []⟩, _, rfl, Grown.refl V, hok.po, by show V.sz ≤ _; omega, Nat.zero_le _, .inl ⟨h2, rfl, rfl⟩, h4⟩
 ·exact ⟨0, V.mk1 p.pg n, _, rfl, (mk1_wk hok h2).g, (mk1_wk hok h2).ok, by
   simp only [Va.sz, Va.mk1, Vw.act, Vw.put, Po.act, List.length_append, List.length_singleton] at hsz ⊢
   omega, by simp [Va.mk1, Vw.act, Vw.put], .inr ⟨n, h2, rfl, rfl, rfl⟩, h4⟩))) rfl (fun w v16 hv => ?_)
 obtain ⟨er, x, L', rfl, -, hQ, hres⟩ := hv
 have h1 : checkP p.pg = 0 := Decidable.not_not.1 h1
 obtain ⟨n, hmk, hw⟩ : ∃ n, V.make p.pg = (n, er, (V.make p.pg).2.2) ∧ Sat G (vaA vq (V.make p.pg).2.2 :: blk b7 [.int .i64 n] 3 :: blk b2 [.pointer (some ⟨vq, 0, none⟩)] 28 :: blk b3 p.cells 75 :: L) w := by
  rcases hQ with ⟨h2, rfl, rfl⟩ | ⟨n, h2, rfl, rfl, rfl⟩
  ·have e : V.make p.pg = (0, 12, V) := by unfold Va.make; rw [if_neg (fun h => h h1), h2]
   rw [e]
   exact ⟨0, rfl, (hres.resolve_right (fun h => by cases h.1)).2⟩
  have e : V.make p.pg = (n, 0, V.done (V.mk1 p.pg n)) := by unfold Va.make; rw [if_neg (fun h => h h1), h2]
  rw [e]
  exact ⟨n, rfl, (hres.resolve_left (fun h => h.1 rfl)).2⟩
 refine z4 ?_
 refine lD one_int hw ?_
 refine z5 ?_
 exact end2 rfl rfl rfl rfl (by
 rw [hmk]
 exact ⟨rfl, (hw.b [blk b7 _ _, blk b3 _ _, blk b2 _ _]).tail.tail.tail⟩)
theorem ct_vault_Vault_own {vq : Nat} {V : Va} {n : Int} (hw : Sat G (vaA vq V :: L) w) (hok : V.Ok) :
  Calls Tryz.prog 147 #[.pointer (some ⟨vq, 0, none⟩), .int .i64 n] w (Ret fun r w' => r = .bool (decide (V.own n)) ∧ Sat G (vaA vq V :: L) w') := by
 obtain ⟨m, hf, hw⟩ := vaA_open hw
 refine calls_of_x (args := [_, _]) Tryz.func147 rfl Tryz.ntmps147 rfl rfl ?_
 refine z9 ?_
 refine lD one_p_pool_Pool hw ?_
 refine z1 ?_
 refine x_call rfl rfl trivial cal_pool_Pool_State rfl (ct_poA_State (n := n) (hw.b [poA m.q V.po]) hok.po) rfl (fun w v10 hv => ?_)
 obtain ⟨rfl, hw⟩ := hv
 refine z2 ?_
 refine xl_andM (l1 := [8, 9, 10, 11, 12, 13, 14, 15]) (l2 := [16]) rfl (d := 20) (V.own n) (fun w => Sat G (poA m.q V.po :: blk vq (vtC m.q m.om m.av V.vf) 38 :: mapI m.om (onKV m.on) :: stO m.S :: row 170 2 m.av m.acs.length (m.acs.map actC).flatten :: both (m.acs.map wasO) :: L) w) rfl ?_ ?_
 ·
  refine xl_split (d := 12) rfl (fun h1 => ?_) (fun h1 => ?_)
  ·
   refine z1 ?_
   refine x_nc rfl rfl ⟨_, rfl, rfl⟩ rfl ?_
   refine z1 ?_
   refine lD one_p_pool_Pool hw ?_
   refine z1 ?_
   refine x_call rfl rfl ⟨_, rfl, rfl⟩ cal_pool_Pool_Count rfl (ct_poA_Count (n := n) (hw.b [poA m.q V.po]) hok.po) rfl (fun w v18 hv => ?_)
   obtain ⟨rfl, hw⟩ := hv
   refine z3 ?_
   refine ⟨hw, congrArg some (congrArg Value.bool ?_)⟩
   first | exact decide_eq_decide.2 ⟨fun h => ⟨h1, h⟩, fun h => h.2⟩ | exact (decide_eq_false (fun h => h1 h.1)).symm
  refine z9 ?_
  refine ⟨hw, congrArg some (congrArg Value.bool ?_)⟩
  first | exact decide_eq_decide.2 ⟨fun h => ⟨h1, h⟩, fun h => h.2⟩ | exact (decide_eq_false (fun h => h1 h.1)).symm
 clear hw; intro w hw
 refine z3 ?_
 exact end1 rfl rfl rfl ⟨rfl, vaA_shut hf (hw.b [blk vq _ _, mapI _ _, stO _, row 170 _ _ _ _, both (m.acs.map wasO), poA _ _])⟩
theorem ct_vault_Vault_Write_1 {vq b b1 b2 b3 : Nat} {mk n : Int} {V : Va} {p : PgV} (hw : Sat G (vwA vq b mk ⟨V, []⟩ :: blk b1 [.pointer (some ⟨vq, 0, none⟩)] 28 :: blk b2 [.int .i64 n] 3 :: blk b3 p.cells 75 :: L) w) (hp : p.Ok L) :
  Calls Tryz.prog 148 #[.pointer (some ⟨b, 0, none⟩), .pointer (some ⟨b1, 0, none⟩), .pointer (some ⟨b2, 0, none⟩), .pointer (some ⟨b3, 0, none⟩)] w (Ret fun r w' =>
   r = .int .i64 0 ∧ Sat G (vwA vq b mk (V.wr1 n p.pg) :: blk b1 [.pointer (some ⟨vq, 0, none⟩)] 28 :: blk b2 [.int .i64 n] 3 :: blk b3 p.cells 75 :: L) w') := by
 refine calls_of_x (args := [_, _, _, _]) Tryz.func148 rfl Tryz.ntmps148 rfl rfl ?_
 refine z5 ?_
 refine x_draw [0, 1, 2, 3, 4, 5] mixed (by kernel_rfl) ?_
 replace hw := hw.drawn (w.drawn + 1)
 refine lD one_p_vault_Vault hw ?_
 refine z1 ?_
 refine lD one_int hw ?_
 refine lA many_api_Page hw ?_
 refine x_callP rfl rfl trivial cal_vault_copied rfl (ct_vault_copied (p := p) hw (hp.of sF)) (fun w v10 hv q' hq => ?_) (fun w v10 hv => ?_)
 ·
  obtain ⟨p', rfl, hpe, hps, hw⟩ := hv
  have hq := pend_mem (l := [2, 0]) (by kernel_rfl) hq
  simp only [List.mem_cons, List.not_mem_nil, or_false] at hq
  rcases hq with rfl | rfl
  ·exact chk_ld rfl rfl rfl (Loads.blk1 one_int hw pK rfl)
  exact chk_ld rfl rfl rfl (Loads.blk1 one_p_vault_Vault hw pK rfl)
 obtain ⟨p', rfl, hpe, hps, hw⟩ := hv
 refine x_call rfl rfl trivial cal_vault_Vault_put rfl (ct_vault_Vault_put (p := p') (n := n) (hw.b [vwA vq b _ _, pgO p']) hps (Nat.zero_le _)) (by kernel_rfl) (fun w v11 hv => ?_)
 obtain ⟨rfl, hw⟩ := hv
 refine z6 ?_
 exact end1 rfl rfl rfl ⟨rfl, by rw [hpe] at hw; have hz := hw.b [vwA vq b _ _, blk b1 _ _, blk b2 _ _, blk b3 _ _]; exact hz⟩
theorem ct_vault_Vault_Write {vq : Nat} {V : Va} {n : Int} {p : PgV} (hw : Sat G (vaA vq V :: L) w) (hp : p.Ok L) (hok : V.Ok) (hsz : V.sz ≤ 1000000000000) :
  Calls Tryz.prog 86 #[.pointer (some ⟨vq, 0, none⟩), .int .i64 n, .agg p.cells.toArray] w (Ret fun r w' => r = .int .i64 (V.write n p.pg).1 ∧ Sat G (vaA vq (V.write n p.pg).2 :: L) w') := by
 refine calls_of_x (args := [_, _, _]) Tryz.func86 rfl Tryz.ntmps86 rfl rfl ?_
 refine z2 ?_
 refine x_box rfl rfl trivial rfl rfl hw rfl (fun w b3 hw => ?_)
 refine x_box rfl rfl trivial rfl rfl hw rfl (fun w b4 hw => ?_)
 refine x_box rfl rfl trivial rfl rfl hw rfl (fun w b5 hw => ?_)
 refine z5 ?_
 refine lD one_p_vault_Vault hw ?_
 refine lD one_int hw ?_
 refine x_call rfl rfl trivial cal_vault_Vault_own rfl (ct_vault_Vault_own (n := n) (hw.b [vaA vq V]) hok) rfl (fun w v10 hv => ?_)
 obtain ⟨rfl, hw⟩ := hv
 refine x_notp rfl rfl trivial rfl ?_
 refine xl_nil ?_
 refine x_if rfl (fun h1 => ?_) (fun h1 => ?_)
 ·
  have h1' : ¬ V.own n := by simpa using h1
  refine z5 ?_
  exact end1 rfl rfl rfl (by
 have e : V.write n p.pg = (15, V) := by unfold Va.write; rw [if_pos h1']
 rw [e]
 exact ⟨rfl, (hw.b [blk b5 _ _, blk b4 _ _, blk b3 _ _]).tail.tail.tail⟩)
 have h1' : V.own n := by simpa using h1
 refine z4 ?_
 refine lA many_api_Page hw ?_
 refine x_call rfl rfl trivial cal_page_Check rfl (ct_page_Check (p := p) hw (hp.of sF)) rfl (fun w v13 hv => ?_)
 obtain ⟨rfl, hw⟩ := hv
 refine z7 ?_
 refine x_if rfl (fun h2 => ?_) (fun h2 => ?_)
 ·
  refine z6 ?_
  exact end1 rfl rfl rfl (by
 have e : V.write n p.pg = (checkP p.pg, V) := by unfold Va.write; rw [if_neg (fun h => h h1'), if_pos h2]
 rw [e]
 exact ⟨rfl, (hw.b [blk b5 _ _, blk b4 _ _, blk b3 _ _]).tail.tail.tail⟩)
 refine z3 ?_
 refine lD one_p_vault_Vault hw ?_
 refine x_mkf (v1 := #[]) (v2 := #[.pointer (some ⟨b3, 0, none⟩), .pointer (some ⟨b4, 0, none⟩), .pointer (some ⟨b5, 0, none⟩)]) rfl rfl trivial (by intro z hz; simp at hz; rcases hz with rfl | rfl | rfl <;> exact ⟨_, rfl⟩) (by simp) (by simp only [List.map_toArray, List.map_cons, List.map_nil]; rfl) ?_
 refine x_call rfl rfl trivial cal_vault_Vault_do rfl (ct_vault_Vault_do (fn := 148) (caps := #[.pointer (some ⟨b3, 0, none⟩), .pointer (some ⟨b4, 0, none⟩), .pointer (some ⟨b5, 0, none⟩)]) (Q := fun e x L' => e = 0 ∧ x = V.wr1 n p.pg ∧ L' = blk b3 [.pointer (some ⟨vq, 0, none⟩)] 28 :: blk b4 [.int .i64 n] 3 :: blk b5 p.cells 75 :: L) (hw.b [vaA vq V, blk b3 _ _, blk b4 _ _, blk b5 _ _]) hok hsz cal_vault_Vault_Write_1 (fun w b hw => ret_mono (ct_vault_Vault_Write_1 (p := p) hw hp) (fun r w' h => ⟨0, V.wr1 n p.pg, _, h.1, (Grown.refl V).put n _, hok.po, by show V.sz ≤ _; omega, by simp [Va.wr1, Vw.put], ⟨rfl, rfl, rfl⟩, h.2⟩))) rfl (fun w v19 hv => ?_)
 obtain ⟨er, x, L', rfl, -, ⟨rfl, rfl, rfl⟩, hres⟩ := hv
 have hw := (hres.resolve_left (fun h => h.1 rfl)).2
 have h2 : checkP p.pg = 0 := Decidable.not_not.1 h2
 refine z3 ?_
 exact end1 rfl rfl rfl (by
 have e : V.write n p.pg = (0, V.done (V.wr1 n p.pg)) := by unfold Va.write; rw [if_neg (fun h => h h1'), if_neg (fun h => h h2)]
 rw [e]
 exact ⟨rfl, (hw.b [blk b5 _ _, blk b4 _ _, blk b3 _ _]).tail.tail.tail⟩)
end
theorem pgZ_ok {L : List Assn} : pgZ.Ok L := ⟨⟨fun g w _ => .inl ⟨none, rfl, (fun x h => by cases h), rfl⟩, (fun x hx => by cases hx), by decide⟩, fun g w _ => .inl ⟨⟨none, rfl⟩, rfl⟩, by unfold Small; decide⟩
theorem kids_len {p : Pg} (h : checkP p = 0) : (kidsP p).length ≤ 9 := by
 unfold checkP at h
 simp only [fst_zero_iff] at h
 have h1 := (mst_zero (by decide)).1 h.1.1
 have h2 := (mst_zero (by decide)).1 h.1.2
 have h3 : p.items.length ≤ 8 := by
  unfold formN at h2
  rcases Decidable.em (p.kind = 1) with e | e
  ·have := h2.1 e; omega
  rcases Decidable.em (p.kind = 2) with e2 | e2
  ·have := h2.2.1 e2; omega
  have := h2.2.2 e e2; omega
 have h4 := List.length_filterMap_le (fun x : It => if p.kind = 2 ∨ (p.kind = 1 ∧ x.child ≠ 0) then some x.child else none) p.items
 unfold kidsP
 rw [List.length_append]
 have h5 : (if p.kind = 3 ∧ p.next ≠ 0 then [p.next] else []).length ≤ 1 := by split <;> simp
 omega
theorem Va.kids_len {V : Va} (hok : V.Ok) (n : Int) : (kidsP (V.pg n)).length ≤ 9 := by
 unfold Va.pg
 cases h : V.on n with
 | none => exact Nat.zero_le _
 | some p => exact X.kids_len (hok.on n p h)
def Vw.incAll : Vw → List Int → Int × Vw
 | x, [] => (0, x)
 | x, k :: r => if x.v.po.incE k ≠ 0 then (x.v.po.incE k, x) else (x.act k 1).incAll r
def Vw.leave (x : Vw) (n : Int) : Int × Vw := if x.v.cnt n = 0 then (15, x.free n) else if x.v.cnt n = 1 then (0, (x.act n (-1)).free n) else (x.act n (-1)).incAll (kidsP ((x.act n (-1)).v.pg n))
theorem incE_zero {P : Po} {n : Int} (h : P.incE n = 0) : thereP P.c n ∧ P.cnt n ≠ 0 ∧ P.cnt n ≠ P.refs := by
 unfold Po.incE at h
 split at h
 ·cases h
 split at h
 ·cases h
 rename_i h1 h2; exact ⟨cntP_there h1, h1, h2⟩
theorem Wk.inc {V : Va} {k : Nat} {x : Vw} (h : Wk V k x) {n : Int} (he : x.v.po.incE n = 0) : Wk V (k + 1) (x.act n 1) := by
 obtain ⟨h1, h2, h3⟩ := incE_zero he
 have := h.ok.cnt n
 exact h.act h1 (.inl rfl) (by unfold Va.cnt; omega)
theorem Wk.incAll {V : Va} : ∀ {l : List Int} {k : Nat} {x : Vw}, Wk V k x → Wk V (k + l.length) (x.incAll l).2
 | [], k, x, h => h
 | n :: l, k, x, h => by
  unfold Vw.incAll
  split
  ·exact h.mono (by omega)
  rename_i he
  have := (h.inc (Decidable.not_not.1 he)).incAll (l := l)
  exact this.mono (by simp only [List.length_cons]; omega)
theorem Wk.leave {V : Va} {k : Nat} {x : Vw} (h : Wk V k x) (n : Int) (hk : (kidsP (x.v.pg n)).length ≤ 9) : Wk V (k + 10) (x.leave n).2 := by
 unfold Vw.leave
 have hc := h.ok.cnt n
 split
 ·exact (h.free n).mono (by omega)
 rename_i h0
 have ha := h.act (b := -1) (cntP_there h0) (.inr rfl) (by unfold Va.cnt at h0 ⊢; omega)
 split
 ·exact (ha.free n).mono (by omega)
 have := ha.incAll (l := kidsP ((x.act n (-1)).v.pg n))
 exact this.mono (by have e : (x.act n (-1)).v.pg n = x.v.pg n := rfl; rw [e]; omega)
theorem incAll_take : ∀ (l : List Int) (j : Nat) (x y : Vw), j ≤ l.length → x.incAll (l.take j) = (0, y) → x.incAll l = y.incAll (l.drop j)
 | l, 0, x, y, _, h => by simp only [List.take_zero, Vw.incAll, Prod.mk.injEq, true_and] at h; subst h; rfl
 | [], j + 1, x, y, hj, _ => by simp at hj
 | n :: l, j + 1, x, y, hj, h => by
  simp only [List.take_succ_cons, Vw.incAll] at h
  split at h
  ·rename_i he; exact absurd (congrArg Prod.fst h) he
  rename_i he
  have := incAll_take l j _ y (by simpa using hj) h
  simp only [List.drop_succ_cons]
  rw [← this]
  conv => lhs; unfold Vw.incAll
  rw [if_neg he]
theorem incAll_snoc : ∀ (l : List Int) (x y : Vw) (k : Int), x.incAll l = (0, y) → y.v.po.incE k = 0 → x.incAll (l ++ [k]) = (0, y.act k 1)
 | [], x, y, k, h, hk => by
  simp only [Vw.incAll, Prod.mk.injEq, true_and] at h; subst h
  simp only [List.nil_append, Vw.incAll]
  rw [if_neg (fun h => h hk)]
 | n :: l, x, y, k, h, hk => by
  simp only [Vw.incAll] at h
  split at h
  ·rename_i he; exact absurd (congrArg Prod.fst h) he
  rename_i he
  simp only [List.cons_append, Vw.incAll]
  rw [if_neg he]
  exact incAll_snoc l _ y k h hk
def Va.shadow (V : Va) (n : Int) : Int × Int × Va := if V.cnt n = 0 then (0, 15, V) else if V.own n then (n, 0, V) else match V.po.low with
 | none => (0, 12, V)
 | some m => if ((V.mk1 (V.pg n) m).leave n).1 ≠ 0 then (0, ((V.mk1 (V.pg n) m).leave n).1, V) else (m, 0, V.done ((V.mk1 (V.pg n) m).leave n).2)
theorem Wt.free {x : Vw} (h : Wt x) (hok : x.v.po.Ok) (n : Int) : Wt (x.free n) := by
 unfold Vw.free
 split
 ·rename_i hs
  refine ⟨fun k q hq => ?_, fun k hk => ?_⟩
  ·have hq : upd x.v.on n none k = some q := hq
   unfold upd at hq
   split at hq
   ·cases hq
   exact h.ck k q hq
  show upd x.v.on n none k ≠ none
  unfold upd
  split
  ·rename_i e
   subst e
   exact absurd (free_cnt hok hs) hk
  exact h.th k hk
 exact h
theorem Wt.incAll : ∀ {l : List Int} {x : Vw}, Wt x → Wt (x.incAll l).2
 | [], x, h => h
 | n :: l, x, h => by
  unfold Vw.incAll
  split
  ·exact h
  rename_i he
  obtain ⟨h1, h2, _⟩ := incE_zero (Decidable.not_not.1 he)
  exact (h.act h1 h2).incAll
theorem Wt.leave {x : Vw} (h : Wt x) (hok : x.v.po.Ok) (n : Int) : Wt (x.leave n).2 := by
 unfold Vw.leave
 have hc := hok.cnt n
 split
 ·exact h.free hok n
 rename_i h0
 have h0 : ¬ x.v.po.cnt n = 0 := h0
 have ha := h.act (b := -1) (cntP_there h0) h0
 have ho : (x.act n (-1)).v.po.Ok := hok.act (cntP_there h0) (.inr rfl) (by omega)
 split
 ·exact ha.free ho n
 exact ha.incAll
section
variable {G : Gh} {L R : List Assn} {w : World}
theorem ct_vault_Vault_leave {vq b : Nat} {mk n : Int} {x : Vw} (hw : Sat G (vwA vq b mk x :: L) w) (hok : x.v.po.Ok) (hpa : x.v.po.pa.length ≤ 1100000000000) (hsz : x.was.length ≤ 1000000000000) (hk : (kidsP (x.v.pg n)).length ≤ 9) :
  Calls Tryz.prog 157 #[.pointer (some ⟨vq, 0, none⟩), .pointer (some ⟨b, 0, none⟩), .int .i64 n] w (Ret fun r w' => r = .int .i64 (x.leave n).1 ∧ Sat G (vwA vq b mk (x.leave n).2 :: L) w') := by
 obtain ⟨m, hf, hw⟩ := vwA_open hw
 obtain ⟨lf, hlf⟩ : ∃ z : Int, z = if x.v.po.cnt n = 0 then 0 else x.v.po.cnt n - 1 := ⟨_, rfl⟩
 obtain ⟨er, her⟩ : ∃ z : Int, z = if x.v.po.cnt n = 0 then 15 else 0 := ⟨_, rfl⟩
 obtain ⟨x1, hx1⟩ : ∃ z : Vw, z = { x with v := { x.v with po := x.v.po.dec n } } := ⟨_, rfl⟩
 have hf1 : VwF x1 m := by rw [hx1]; exact ⟨⟨hf.f.on, hf.f.onS, hf.f.sm, hf.f.acs, hf.f.acsS⟩, hf.ws, hf.wsS⟩
 have hx1o : x1.v.po.Ok ∧ x1.v.po.pa.length ≤ 1100000000001 := by
  have hc := hok.cnt n
  rw [hx1]
  show (x.v.po.dec n).Ok ∧ (x.v.po.dec n).pa.length ≤ _
  unfold Po.dec
  split
  ·exact ⟨hok, by omega⟩
  rename_i h0
  exact ⟨hok.act (cntP_there h0) (.inr rfl) (by omega), by simp only [Po.act, List.length_append, List.length_singleton]; omega⟩
 refine calls_of_x (args := [_, _, _]) Tryz.func157 rfl Tryz.ntmps157 rfl rfl ?_
 refine z9 ?_
 refine lD one_p_pool_Pool hw ?_
 refine z1 ?_
 refine x_call rfl rfl trivial cal_pool_Pool_Dec rfl (ct_pool_Pool_Dec (P := x.v.po) (n := n) (hw.b [poA m.m.q x.v.po]) hok (by omega)) rfl (fun w v18 hv => ?_)
 rw [← hlf, ← her] at hv
 obtain ⟨rfl, hw⟩ := hv
 have hz := hw.b [poA m.m.q _, blk b _ _, row 212 _ _ _ _, blk vq _ _, mapI _ _, stO _, row 170 _ _ _ _, both (m.m.acs.map wasO)]
 clear hw
 have hz := hz.b [blk b _ _, row 212 _ _ _ _, blk vq _ _, mapI _ _, stO _, row 170 _ _ _ _, both (m.m.acs.map wasO), poA m.m.q _]
 have hw : Sat G (vwA vq b mk x1 :: L) w := vwA_shut (x := x1) (m := m) hf1 (by rw [hx1]; exact hz)
 clear hz
 refine z12 ?_
 refine xl_and (l1 := [3, 4, 5]) (l2 := []) rfl (d := 26) (er ≠ 0 ∨ lf = 0) rfl ?_ ?_
 ·
  refine xl_split (d := 23) rfl (fun h1 => ?_) (fun h1 => ?_)
  ·
   refine z4 ?_
   refine cQ ?_
   exact dC
  refine z4 ?_
  refine cQ ?_
  exact dC
 refine xl_nil ?_
 refine x_if rfl (fun h2 => ?_) (fun h2 => ?_)
 ·
  refine z5 ?_
  refine x_call rfl rfl trivial cal_vault_Vault_free rfl (ct_vault_Vault_free (n := n) hw hx1o.1 (by rw [hx1]; exact hsz)) rfl (fun w v30 hv => ?_)
  obtain ⟨rfl, hw⟩ := hv
  refine z7 ?_
  exact end1 rfl rfl rfl (by
 by_cases hc : x.v.po.cnt n = 0
 ·have e : x.leave n = (15, x.free n) := by unfold Vw.leave Va.cnt; rw [if_pos hc]
  have e1 : x1 = x := by rw [hx1]; unfold Po.dec; rw [if_pos hc]
  rw [e, her, if_pos hc]
  rw [e1] at hw
  exact ⟨rfl, hw⟩
 ·have hl1 : x.v.po.cnt n = 1 := by rw [hlf, her, if_neg hc, if_neg hc] at h2; omega
  have e : x.leave n = (0, (x.act n (-1)).free n) := by unfold Vw.leave Va.cnt; rw [if_neg hc, if_pos hl1]
  have e1 : x1 = x.act n (-1) := by rw [hx1]; unfold Po.dec; rw [if_neg hc]; rfl
  rw [e, her, if_neg hc]
  rw [e1] at hw
  exact ⟨rfl, hw⟩)
 have hc : ¬ x.v.po.cnt n = 0 := fun h => by rw [her, if_pos h] at h2; exact h2 (.inl (by decide))
 have hl1 : ¬ x.v.po.cnt n = 1 := fun h => by rw [hlf, if_neg hc, h] at h2; exact h2 (.inr rfl)
 have e1 : x1 = x.act n (-1) := by rw [hx1]; unfold Po.dec; rw [if_neg hc]; rfl
 have hle : x.leave n = x1.incAll (kidsP (x1.v.pg n)) := by unfold Vw.leave Va.cnt; rw [if_neg hc, if_neg hl1, e1]
 have hk1 : (kidsP (x1.v.pg n)).length ≤ 9 := by rw [e1]; exact hk
 obtain ⟨m1, hm1, hw⟩ := vwA_open hw
 obtain ⟨p0, b0, hp0, -, hone, -, hS, hZ, hpg⟩ := on_look hm1.f n hw (L := vwP vq b mk x1 m1 L) pK
 have hpo : p0.Ok (vwP vq b mk x1 m1 L) := by
  cases b0 with
  | true => exact stO_ok (hS rfl) (hm1.f.sm _ (hS rfl)) pK
  | false => rw [hZ rfl]; exact pgZ_ok
 refine z7 ?_
 refine lD one_m_int_api_Page hw ?_
 refine z1 ?_
 refine x_lk1 (v0 := .agg p0.cells.toArray) rfl rfl trivial U_m_int_api_Page U_int zv_api_Page rfl rfl hw pK hp0 ?_
 refine x_call rfl rfl trivial cal_page_Kids rfl (ct_page_Kids (p := p0) hw hpo) rfl (fun w v38 hv => ?_)
 rw [hpg] at hv
 obtain ⟨l, hl⟩ : ∃ l, l = kidsP (x1.v.pg n) := ⟨_, rfl⟩
 rw [← hl] at hv hle hk1
 obtain ⟨ka, kc, rfl⟩ := row_form hv
 have hrow : Knows [row 3 1 (.slice ka l.length kc) l.length (ints l)] (SlV (.slice ka l.length kc) (ints l)) := slv_row (by rw [ints_length])
 have hw := vwA_shut hm1 (hv.b [blk b _ _, row 212 _ _ _ _, blk vq _ _, mapI _ _, stO _, row 170 _ _ _ _, both (m1.m.acs.map wasO), poA m1.m.q _, row 3 1 _ _ _])
 refine z4 ?_
 refine x_loop (fun m e w => ∃ (j : Nat) (y : Vw), j ≤ l.length ∧ m = l.length - j ∧ e = [(0, .pointer (some ⟨vq, 0, none⟩)), (38, .slice ka l.length kc), (39, .int .i64 l.length), (40, .int .i64 j)] ∧ (x1.incAll (l.take j) = (0, y) ∧ y.v.po.Ok ∧ y.v.po.pa.length ≤ 1100000000001 + j) ∧ Sat G (vwA vq b mk y :: row 3 1 (.slice ka l.length kc) l.length (ints l) :: L) w)
  (m := l.length) (e₀ := [(0, .pointer (some ⟨vq, 0, none⟩)), (38, .slice ka l.length kc), (39, .int .i64 l.length), (40, .int .i64 (0 : Nat))]) sB
  ⟨0, x1, Nat.zero_le _, rfl, rfl, ⟨rfl, hx1o.1, by have := hx1o.2; omega⟩, hw⟩ ?_
 rintro m e w ⟨j, y, hj, rfl, rfl, ⟨hy1, hy2, hy3⟩, hw⟩
 refine z5 ?_
 refine x_if rfl (fun h3 => ?_) (fun h3 => ?_)
 ·
  have hj' : j < l.length := by omega
  obtain ⟨k, hk2⟩ : ∃ k, l[j]? = some k := ⟨_, List.getElem?_eq_getElem hj'⟩
  have hki : (ints l)[j]? = some (.int .i64 k) := by simp only [ints, List.getElem?_map, hk2]; rfl
  obtain ⟨bb, oo, rfl⟩ := (((hrow.head _).cons _).at hw).nn (by rw [ints_length]; omega)
  refine z5 ?_
  refine x_idx1 rfl rfl trivial U_sl_int sz_int rfl rfl ⟨by omega, by omega⟩ ?_
  refine x_ld rfl rfl trivial rfl (Loads.one one_int ((((hrow.head _).cons _).at hw).at (by rw [Int.toNat_natCast]; exact hki))) ?_
  obtain ⟨m2, hm2, hw⟩ := vwA_open hw
  refine z7 ?_
  refine lD one_p_pool_Pool hw ?_
  refine z1 ?_
  refine x_call rfl rfl trivial cal_pool_Pool_Inc rfl (ct_pool_Pool_Inc (P := y.v.po) (n := k) (hw.b [poA m2.m.q y.v.po]) hy2 (by omega)) rfl (fun w v49 hv => ?_)
  obtain ⟨rfl, hw⟩ := hv
  have hz := hw.b [poA m2.m.q _, blk b _ _, row 212 _ _ _ _, blk vq _ _, mapI _ _, stO _, row 170 _ _ _ _, both (m2.m.acs.map wasO)]
  have hz := hz.b [blk b _ _, row 212 _ _ _ _, blk vq _ _, mapI _ _, stO _, row 170 _ _ _ _, both (m2.m.acs.map wasO), poA m2.m.q _]
  clear hw
  refine z7 ?_
  refine x_if rfl (fun h4 => ?_) (fun h4 => ?_)
  ·
   have e2 : y.v.po.inc k = y.v.po := by unfold Po.inc; rw [if_neg h4]
   rw [e2] at hz
   have hw := vwA_shut hm2 hz
   refine z6 ?_
   exact end1 rfl rfl rfl (by
 have h5 := incAll_take l j x1 y (by omega) hy1
 rw [hle, h5, drop_cons hk2]
 unfold Vw.incAll
 rw [if_pos h4]
 exact ⟨rfl, (hw.b [row 3 _ _ _ _]).tail⟩)
  have h4 : y.v.po.incE k = 0 := Decidable.not_not.1 h4
  have e2 : y.v.po.inc k = y.v.po.act k 1 := by unfold Po.inc; rw [if_pos h4]
  rw [e2] at hz
  have hw := vwA_shut (x := y.act k 1) (hm2.act k 1) hz
  obtain ⟨hi1, hi2, hi3⟩ := incE_zero h4
  have hi4 := hy2.cnt k
  refine z5 ?_
  exact ⟨l.length - (j + 1), by omega, [(0, _), (38, _), (39, _), (40, .int .i64 (j + 1 : Nat))], sB, j + 1, y.act k 1, by omega, rfl, rfl, ⟨by rw [take_step hk2]; exact incAll_snoc _ _ _ _ hy1 h4, hy2.act hi1 (.inl rfl) (by omega), by simp only [Vw.act, Po.act, List.length_append, List.length_singleton]; omega⟩, hw⟩
 refine z6 ?_
 exact end1 rfl rfl rfl (by
 rw [List.take_of_length_le (by omega)] at hy1
 rw [hle, hy1]
 exact ⟨rfl, (hw.b [row 3 _ _ _ _]).tail⟩)
end
theorem mk1_kids {V : Va} (hok : V.Ok) (n m : Int) : (kidsP ((V.mk1 (V.pg n) m).v.pg n)).length ≤ 9 := by
 show (kidsP ((upd V.on m (some (V.pg n)) n).getD pgZ.pg)).length ≤ 9
 unfold upd
 split
 ·exact V.kids_len hok n
 exact V.kids_len hok n
theorem Va.shadow_wk {V : Va} (hok : V.Ok) {n m : Int} (hm : V.po.low = some m) : Wk V 12 ((V.mk1 (V.pg n) m).leave n).2 := ((mk1_wk hok hm).leave n (mk1_kids hok n m))
theorem pg_check {V : Va} (hok : V.Base) {n : Int} (h : V.po.cnt n ≠ 0) : checkP (V.pg n) = 0 := by
 unfold Va.pg
 cases ho : V.on n with
 | none => exact absurd ho (hok.th n h)
 | some p => exact hok.on n p ho
theorem row_cutT {T z m c j : Nat} {A : Option Addr} {rs : List (List Value)} {G : Gh} {L : List Assn} {w : World} (hw : Sat G (row T z (.slice A m c) m rs.flatten :: L) w) (hm : rs.length = m) (hz : ∀ r ∈ rs, r.length = z) (hj : j ≤ m) : Sat G (row T z (.slice A j c) j (rs.take j).flatten :: L) w := by
 refine hw.cons_mono fun h ⟨hl, hh⟩ => ?_
 have e : rs.flatten = (rs.take j).flatten ++ (rs.drop j).flatten := by rw [← List.flatten_append, List.take_append_drop]
 have hlj : (rs.take j).flatten.length = j * z := by rw [flatten_length (fun r hr => hz r (List.mem_of_mem_take hr)), List.length_take]; congr 1; omega
 refine ⟨hlj, ?_⟩
 rcases hh with ⟨h1, h2⟩ | ⟨b, cap, cur, hv, hb, h1, h2, h3⟩
 ·subst h2; have : j = 0 := by omega
  subst this; exact .inl ⟨h1, rfl⟩
 cases hv
 refine .inr ⟨b, c, (rs.drop j).flatten ++ cur, rfl, ?_, by omega, h2, ?_⟩
 ·rw [← List.append_assoc, ← e]; exact hb
 rw [← List.append_assoc, ← e]; exact h3
theorem both_unsnoc {G : Gh} {R M : List Assn} {A : Assn} {w : World} (h : Sat G (both (M ++ [A]) :: R) w) : Sat G (both M :: A :: R) w := Sat.both_in (by have := h.both_out; rwa [List.append_assoc] at this)
theorem pop_facts {V : Va} (h : 0 < V.va.length) : V.pop.va.length = V.va.length - 1 ∧ V.pop.vf = V.vf ∧ V.pop.sz ≤ V.sz := by
 unfold Va.pop
 cases hl : V.va.getLast? with
 | none => rw [List.getLast?_eq_none_iff] at hl; rw [hl] at h; simp at h
 | some a =>
  refine ⟨by simp, rfl, ?_⟩
  show V.po.pf + (((V.po.pa.take (a.1 - V.po.pf).toNat).length : Nat) : Int) + V.vf + ((V.va.dropLast.length : Nat) : Int) ≤ V.po.pf + V.po.pa.length + V.vf + V.va.length
  rw [List.length_take, List.length_dropLast]; omega
theorem popN_facts : ∀ (V : Va) (j : Nat), j ≤ V.va.length → (V.popN j).va.length = V.va.length - j ∧ (V.popN j).vf = V.vf ∧ (V.popN j).sz ≤ V.sz
 | V, 0, _ => ⟨rfl, rfl, Int.le_refl _⟩
 | V, j + 1, h => by
  obtain ⟨h1, h2, h3⟩ := pop_facts (V := V) (by omega)
  obtain ⟨h4, h5, h6⟩ := popN_facts V.pop j (by omega)
  exact ⟨by show (V.pop.popN j).va.length = _; omega, by show (V.pop.popN j).vf = _; rw [h5, h2], by show (V.pop.popN j).sz ≤ _; omega⟩
theorem popN_succ : ∀ (V : Va) (j : Nat), V.popN (j + 1) = (V.popN j).pop
 | V, 0 => rfl
 | V, j + 1 => by show V.pop.popN (j + 1) = (V.pop.popN j).pop; exact popN_succ V.pop j
section
variable {G : Gh} {L R : List Assn} {w : World}
theorem ct_vault_Vault_Shadow_1 {vq b b1 b2 b3 : Nat} {mk z n : Int} {V : Va} (hw : Sat G (vwA vq b mk ⟨V, []⟩ :: blk b2 [.int .i64 z] 3 :: blk b1 [.pointer (some ⟨vq, 0, none⟩)] 28 :: blk b3 [.int .i64 n] 3 :: L) w) (hok : V.Ok) (hsz : V.sz ≤ 1000000000000) :
  Calls Tryz.prog 156 #[.pointer (some ⟨b, 0, none⟩), .pointer (some ⟨b1, 0, none⟩), .pointer (some ⟨b2, 0, none⟩), .pointer (some ⟨b3, 0, none⟩)] w (Ret fun r w' =>
   (V.po.low = none ∧ r = .int .i64 12 ∧ Sat G (vwA vq b mk ⟨V, []⟩ :: blk b2 [.int .i64 0] 3 :: blk b1 [.pointer (some ⟨vq, 0, none⟩)] 28 :: blk b3 [.int .i64 n] 3 :: L) w') ∨
   (∃ m, V.po.low = some m ∧ r = .int .i64 ((V.mk1 (V.pg n) m).leave n).1 ∧ Sat G (vwA vq b mk ((V.mk1 (V.pg n) m).leave n).2 :: blk b2 [.int .i64 m] 3 :: blk b1 [.pointer (some ⟨vq, 0, none⟩)] 28 :: blk b3 [.int .i64 n] 3 :: L) w')) := by
 obtain ⟨m, hf, hw⟩ := vwA_open hw
 have hpl : V.po.pa.length ≤ 1000000000000 := by have := hok.pf; have := hok.vf; unfold Va.sz at hsz; omega
 refine calls_of_x (args := [_, _, _, _]) Tryz.func156 rfl Tryz.ntmps156 rfl rfl ?_
 refine z7 ?_
 refine lD one_p_vault_Vault hw ?_
 refine z2 ?_
 refine lD one_p_pool_Pool hw ?_
 refine x_call rfl rfl trivial cal_pool_Pool_Alloc rfl (ct_poA_Alloc (P := V.po) (hw.b [poA m.m.q V.po]) hok.po (by omega)) rfl (fun w v11 hv => ?_)
 obtain ⟨k, er, P', rfl, hcase, hw⟩ := hv
 refine z3 ?_
 refine x_st1 rfl trivial rfl rfl one_int rfl hw pK rfl rfl rfl (fun w hw => ?_)
 refine z7 ?_
 refine x_if rfl (fun h1 => ?_) (fun h1 => ?_)
 ·
  obtain ⟨h0, rfl, rfl, rfl⟩ := hcase.resolve_right (fun h => h1 h.2.1)
  refine z6 ?_
  exact end1 rfl rfl rfl (.inl ⟨h0, rfl, by
  have hz := hw.b [blk b _ _, row 212 _ _ _ _, blk vq _ _, mapI _ _, stO _, row 170 _ _ _ _, both (m.m.acs.map wasO), poA _ _, blk b2 _ _, blk b1 _ _, blk b3 _ _]
  exact vwA_shut hf hz⟩)
 have h1 : er = 0 := Decidable.not_not.1 h1
 subst h1
 obtain ⟨hlo, -, rfl⟩ := hcase.resolve_left (fun h => by cases h.2.2.1)
 have hwk := mk1_wk (p := V.pg n) hok hlo
 obtain ⟨p0, b0, hp0, -, hone, -, hS, hZ, hpg⟩ := on_look (hf.act k 1).f n (hw.b [stO m.m.S]) .here
 refine z2 ?_
 refine x_draw [0, 1, 2, 3, 4, 5, 6, 7, 8, 9, 10] mixed (by kernel_rfl) ?_
 replace hw := hw.drawn (w.drawn + 1)
 refine lD one_p_vault_Vault hw ?_
 refine z1 ?_
 refine lD one_int hw ?_
 refine lD one_p_vault_Vault hw ?_
 refine z2 ?_
 refine lD one_m_int_api_Page hw ?_
 refine lD one_int hw ?_
 refine x_lk1 (v0 := .agg p0.cells.toArray) rfl rfl ?gd U_m_int_api_Page U_int zv_api_Page rfl rfl hw pK hp0 ?_
 case gd => trivial
 have hz := hw.b [blk b _ _, row 212 _ _ _ _, blk vq _ _, mapI _ _, stO _, row 170 _ _ _ _, both (m.m.acs.map wasO), poA _ _, blk b2 _ _, blk b1 _ _, blk b3 _ _]
 have hpo : p0.Ok (vwP vq b mk ((⟨V, []⟩ : Vw).act k 1) m (blk b2 [.int .i64 k] 3 :: blk b1 [.pointer (some ⟨vq, 0, none⟩)] 28 :: blk b3 [.int .i64 n] 3 :: L)) := by
  cases b0 with
  | true => exact stO_ok (hS rfl) (hf.f.sm _ (hS rfl)) pK
  | false => rw [hZ rfl]; exact pgZ_ok
 clear hw
 have hw : Sat G (vwP vq b mk ((⟨V, []⟩ : Vw).act k 1) m (blk b2 [.int .i64 k] 3 :: blk b1 [.pointer (some ⟨vq, 0, none⟩)] 28 :: blk b3 [.int .i64 n] 3 :: L)) w := hz
 clear hz
 refine x_callP rfl rfl trivial cal_vault_copied rfl (ct_vault_copied (p := p0) hw hpo) (fun w v26 hv q' hq => ?_) (fun w v26 hv => ?_)
 ·
  obtain ⟨p', rfl, hpe, hps, hw⟩ := hv
  have hq := pend_mem (l := [2, 0]) (by kernel_rfl) hq
  simp only [List.mem_cons, List.not_mem_nil, or_false] at hq
  rcases hq with rfl | rfl
  ·exact chk_ld rfl rfl rfl (Loads.blk1 one_int hw pK rfl)
  exact chk_ld rfl rfl rfl (Loads.blk1 one_p_vault_Vault hw pK rfl)
 obtain ⟨p', rfl, hpe, hps, hw⟩ := hv
 have hz := hw.b [blk b _ _, row 212 _ _ _ _, blk vq _ _, mapI _ _, stO _, row 170 _ _ _ _, both (m.m.acs.map wasO), poA _ _]
 have hw2 := vwA_shut (hf.act k 1) hz
 refine x_call rfl rfl trivial cal_vault_Vault_put rfl (ct_vault_Vault_put (p := p') (n := k) (hw2.b [vwA vq b _ _, pgO p']) hps (Nat.zero_le _)) (by kernel_rfl) (fun w v27 hv => ?_)
 obtain ⟨rfl, hw⟩ := hv
 have hpg' : p'.pg = V.pg n := hpe.trans hpg
 rw [hpg'] at hw
 refine z3 ?_
 refine lD one_p_vault_Vault hw ?_
 refine z1 ?_
 refine lD one_int hw ?_
 refine x_call rfl rfl trivial cal_vault_Vault_leave rfl (ct_vault_Vault_leave (x := ((⟨V, []⟩ : Vw).act k 1).put k (some (V.pg n))) (n := n) (hw.b [vwA vq b _ _]) hwk.ok (show (V.mk1 (V.pg n) k).v.po.pa.length ≤ _ by have := hwk.pa; omega) (show (V.mk1 (V.pg n) k).was.length ≤ _ by have := hwk.was; omega) (mk1_kids hok n k)) rfl (fun w v31 hv => ?_)
 obtain ⟨rfl, hw⟩ := hv
 refine z3 ?_
 exact end1 rfl rfl rfl (.inr ⟨k, hlo, rfl, by have hz := hw.b [vwA vq b _ _, blk b2 _ _, blk b1 _ _, blk b3 _ _]; exact hz⟩)
theorem ct_vault_Vault_Shadow {vq : Nat} {V : Va} {n : Int} (hw : Sat G (vaA vq V :: L) w) (hok : V.Ok) (hsz : V.sz ≤ 1000000000000) :
  Calls Tryz.prog 119 #[.pointer (some ⟨vq, 0, none⟩), .int .i64 n] w (Ret fun r w' => r = .tuple #[.int .i64 (V.shadow n).1, .int .i64 (V.shadow n).2.1] ∧ Sat G (vaA vq (V.shadow n).2.2 :: L) w') := by
 obtain ⟨m, hf, hw⟩ := vaA_open hw
 refine calls_of_x (args := [_, _]) Tryz.func119 rfl Tryz.ntmps119 rfl rfl ?_
 refine z2 ?_
 refine x_box rfl rfl trivial rfl rfl hw rfl (fun w b2 hw => ?_)
 refine x_box rfl rfl trivial rfl rfl hw rfl (fun w b3 hw => ?_)
 refine z5 ?_
 refine x_draw [0, 1, 2, 3, 4, 5, 6] mixed (by kernel_rfl) ?_
 replace hw := hw.drawn (w.drawn + 1)
 refine lD one_p_vault_Vault hw ?_
 refine z2 ?_
 refine lD one_p_pool_Pool hw ?_
 refine lD one_int hw ?_
 refine x_call rfl rfl trivial cal_pool_Pool_Count rfl (ct_poA_Count (n := n) (hw.b [poA m.q V.po]) hok.po) (by kernel_rfl) (fun w v13 hv => ?_)
 obtain ⟨rfl, hw⟩ := hv
 have hz := hw.b [blk vq _ _, mapI _ _, stO _, row 170 _ _ _ _, both (m.acs.map wasO), poA _ _]
 have hw := vaA_shut hf hz
 refine z2 ?_
 refine x_if rfl (fun h1 => ?_) (fun h1 => ?_)
 ·
  refine z6 ?_
  exact end2 rfl rfl rfl rfl (by
 have h1 : V.cnt n = 0 := h1
 have e : V.shadow n = (0, 15, V) := by unfold Va.shadow; rw [if_pos h1]
 rw [e]
 exact ⟨rfl, (hw.b [blk b3 _ _, blk b2 _ _]).tail.tail⟩)
 have h1 : ¬ V.cnt n = 0 := h1
 refine z4 ?_
 refine lD one_p_vault_Vault hw ?_
 refine lD one_int hw ?_
 refine x_call rfl rfl trivial cal_vault_Vault_own rfl (ct_vault_Vault_own (n := n) (hw.b [vaA vq V]) hok) rfl (fun w v17 hv => ?_)
 obtain ⟨rfl, hw⟩ := hv
 refine xl_nil ?_
 refine x_if rfl (fun h2 => ?_) (fun h2 => ?_)
 ·
  have h2' : V.own n := by simpa using h2
  refine z2 ?_
  refine lD one_int hw ?_
  refine z4 ?_
  exact end2 rfl rfl rfl rfl (by
 have e : V.shadow n = (n, 0, V) := by unfold Va.shadow; rw [if_neg h1, if_pos h2']
 rw [e]
 exact ⟨rfl, (hw.b [blk b3 _ _, blk b2 _ _]).tail.tail⟩)
 have h2' : ¬ V.own n := by simpa using h2
 refine z3 ?_
 refine x_alloc rfl rfl trivial z_int hw rfl (fun w b6 hw => ?_)
 refine x_st1 (l' := [.int .i64 0]) rfl trivial rfl rfl one_int rfl hw pK rfl rfl rfl (fun w hw => ?_)
 refine z3 ?_
 refine lD one_p_vault_Vault hw ?_
 refine x_mkf (v1 := #[]) (v2 := #[.pointer (some ⟨b2, 0, none⟩), .pointer (some ⟨b6, 0, none⟩), .pointer (some ⟨b3, 0, none⟩)]) rfl rfl trivial (by intro z hz; simp at hz; rcases hz with rfl | rfl | rfl <;> exact ⟨_, rfl⟩) (by simp) (by simp only [List.map_toArray, List.map_cons, List.map_nil]; rfl) ?_
 refine x_call rfl rfl trivial cal_vault_Vault_do rfl (ct_vault_Vault_do (fn := 156) (caps := #[.pointer (some ⟨b2, 0, none⟩), .pointer (some ⟨b6, 0, none⟩), .pointer (some ⟨b3, 0, none⟩)]) (Q := fun e x L' => (V.po.low = none ∧ e = 12 ∧ L' = blk b6 [.int .i64 0] 3 :: blk b2 [.pointer (some ⟨vq, 0, none⟩)] 28 :: blk b3 [.int .i64 n] 3 :: L) ∨ (∃ k, V.po.low = some k ∧ e = ((V.mk1 (V.pg n) k).leave n).1 ∧ x = ((V.mk1 (V.pg n) k).leave n).2 ∧ L' = blk b6 [.int .i64 k] 3 :: blk b2 [.pointer (some ⟨vq, 0, none⟩)] 28 :: blk b3 [.int .i64 n] 3 :: L)) (hw.b [vaA vq V, blk b6 _ _, blk b2 _ _, blk b3 _ _]) hok hsz cal_vault_Vault_Shadow_1 (fun w b hw => ret_mono (ct_vault_Vault_Shadow_1 hw hok hsz) (fun r w' h => by
 rcases h with ⟨h2, rfl, h4⟩ | ⟨k, h2, rfl, h4⟩
 ·exact ⟨12, ⟨V, []⟩, _, rfl, Grown.refl V, hok.po, by show V.sz ≤ _; omega, Nat.zero_le _, .inl ⟨h2, rfl, rfl⟩, h4⟩
 ·have hwk := Va.shadow_wk (n := n) hok h2
  exact ⟨_, _, _, rfl, hwk.g, hwk.ok, by have := hwk.sz; omega, by have := hwk.was; omega, .inr ⟨k, h2, rfl, rfl, rfl⟩, h4⟩))) rfl (fun w v21 hv => ?_)
 obtain ⟨er, x, L', rfl, -, hQ, hres⟩ := hv
 refine z8 ?_
 refine x_if rfl (fun h3 => ?_) (fun h3 => ?_)
 ·
  have hsh : V.shadow n = (0, er, V) ∧ ∃ k, L' = blk b6 [.int .i64 k] 3 :: blk b2 [.pointer (some ⟨vq, 0, none⟩)] 28 :: blk b3 [.int .i64 n] 3 :: L := by
   rcases hQ with ⟨h5, rfl, rfl⟩ | ⟨k, h5, rfl, rfl, rfl⟩
   ·exact ⟨by unfold Va.shadow; rw [if_neg h1, if_neg h2', h5], 0, rfl⟩
   exact ⟨by unfold Va.shadow; rw [if_neg h1, if_neg h2', h5]; simp only; rw [if_pos h3], k, rfl⟩
  obtain ⟨hsh, k, rfl⟩ := hsh
  have hw := (hres.resolve_right (fun h => h3 h.1)).2
  refine z7 ?_
  exact end2 rfl rfl rfl rfl (by
 rw [hsh]
 exact ⟨rfl, (hw.b [blk b6 _ _, blk b3 _ _, blk b2 _ _]).tail.tail.tail⟩)
 have h3 : er = 0 := Decidable.not_not.1 h3
 obtain ⟨k, hlo, he, rfl, rfl⟩ := hQ.resolve_left (fun h => by have := h.2.1; omega)
 have hw := (hres.resolve_left (fun h => h.1 h3)).2
 have hsh : V.shadow n = (k, 0, V.done ((V.mk1 (V.pg n) k).leave n).2) := by unfold Va.shadow; rw [if_neg h1, if_neg h2', hlo]; simp only; rw [if_neg (by omega)]
 refine z3 ?_
 refine lD one_int hw ?_
 refine z4 ?_
 exact end2 rfl rfl rfl rfl (by
 rw [hsh]
 exact ⟨rfl, (hw.b [blk b6 _ _, blk b3 _ _, blk b2 _ _]).tail.tail.tail⟩)
theorem ct_vault_Vault_Undo {vq : Nat} {V : Va} {mk : Int} (hw : Sat G (vaA vq V :: L) w) (hok : V.Ok) (hsz : V.sz ≤ 1000000000000000) : Calls Tryz.prog 44 #[.pointer (some ⟨vq, 0, none⟩), .int .i64 mk] w (Ret fun r w' =>
  (¬ (V.vf ≤ mk ∧ mk ≤ V.mark) ∧ r = .bool false ∧ Sat G (vaA vq V :: L) w') ∨ (V.vf ≤ mk ∧ mk ≤ V.mark ∧ r = .bool true ∧ Sat G (vaA vq (V.popN (V.mark - mk).toNat) :: L) w')) := by
 have hvf : 0 ≤ V.vf ∧ V.vf + V.va.length ≤ 1000000000000000 := ⟨hok.vf, by have := hok.pf; unfold Va.sz at hsz; omega⟩
 obtain ⟨m, hf, hw⟩ := vaA_open hw
 refine calls_of_x (args := [_, _]) Tryz.func44 rfl Tryz.ntmps44 rfl rfl ?_
 refine z11 ?_
 refine lD (v := .int .i64 V.vf) one_int hw ?_
 refine z2 ?_
 refine xl_split (d := 12) rfl (fun h1 => ?_) (fun h1 => ?_)
 ·
  refine z6 ?_
  refine x_cond_true rfl ?_
  refine z5 ?_
  exact end1 rfl rfl rfl (.inl ⟨by omega, rfl, vaA_shut hf hw⟩)
 refine z2 ?_
 refine x_call rfl rfl ⟨_, rfl, rfl⟩ cal_vault_Vault_Mark rfl (ct_vault_Vault_Mark (vaA_shut hf hw) hvf) rfl (fun w v15 hv => ?_)
 obtain ⟨rfl, hw⟩ := hv
 clear hf
 refine z3 ?_
 refine x_if rfl (fun h2 => ?_) (fun h2 => ?_)
 ·
  refine z5 ?_
  exact end1 rfl rfl rfl (.inl ⟨by omega, rfl, hw⟩)
 refine z3 ?_
 refine x_loop (fun m e w => ∃ j : Nat, j ≤ (V.mark - mk).toNat ∧ m = (V.mark - mk).toNat - j ∧ e = [(0, .pointer (some ⟨vq, 0, none⟩)), (1, .int .i64 mk)] ∧ Sat G (vaA vq (V.popN j) :: L) w)
  (m := (V.mark - mk).toNat) (e₀ := [(0, .pointer (some ⟨vq, 0, none⟩)), (1, .int .i64 mk)]) sB
  ⟨0, Nat.zero_le _, rfl, rfl, hw⟩ ?_
 rintro m e w ⟨j, hj, rfl, rfl, hw⟩
 have hjl : j ≤ V.va.length := by unfold Va.mark at *; omega
 obtain ⟨hpl, hpv, hps⟩ := popN_facts V j hjl
 have hyb := hok.hist j hjl
 obtain ⟨y, hy⟩ : ∃ y, y = V.popN j := ⟨_, rfl⟩
 rw [← hy] at hw hpl hpv hps hyb
 refine z4 ?_
 refine x_call rfl rfl trivial cal_vault_Vault_Mark rfl (ct_vault_Vault_Mark hw ⟨hyb.vf, by have := hyb.pf; unfold Va.sz at hps hsz; omega⟩) rfl (fun w v19 hv => ?_)
 obtain ⟨rfl, hw⟩ := hv
 have hym : y.mark = V.mark - j := by unfold Va.mark; omega
 refine z3 ?_
 refine x_if rfl (fun h3 => ?_) (fun h3 => ?_)
 ·
  have hjn : j < (V.mark - mk).toNat := by omega
  obtain ⟨m, hf, hw⟩ := vaA_open hw
  have hlen := hf.len
  obtain ⟨la, a, hac⟩ : ∃ la a, m.acs = la ++ [a] := by
   rcases m.acs.eq_nil_or_concat with h | ⟨la, a, h⟩
   ·rw [h] at hlen; simp at hlen; unfold Va.mark at *; omega
   exact ⟨la, a, by simpa using h⟩
  obtain ⟨q, om, av, on, S, acs⟩ := m
  simp only at hac
  subst hac
  have hva : y.va = la.map actP ++ [actP a] := by rw [← hf.acs]; simp
  have hlast : y.va.getLast? = some (actP a) := by rw [hva]; simp
  have hmrk := hyb.mrk _ hlast
  have hwl := hyb.wl (actP a) (by rw [hva]; simp)
  have hwl : a.2.2.length ≤ 1000000000000 := by have h : (a.2.2.map wasP).length ≤ 1000000000000 := hwl; rwa [List.length_map] at h
  have hll : (la ++ [a]).length = la.length + 1 := by simp
  have hll2 : (la ++ [a]).length ≤ 1000000000000000 := by have h : (la ++ [a]).length = y.va.length := hlen; omega
  obtain ⟨aa, ac, rfl⟩ := row_form (hw.pick (A := row 170 2 av (la ++ [a]).length _) pK)
  have hrw := hw.pick (A := row 170 2 (.slice aa (la ++ [a]).length ac) (la ++ [a]).length _) pK
  have hcap := row_cap hrw
  have hsp := row_spot hrw
  obtain ⟨-, ab, _, rfl, -⟩ := row_some hrw (by omega)
  have hsl : SlT 2 (.slice (some ⟨ab, 0, none⟩) (la ++ [a]).length ac) ((la ++ [a]).map actC) w := (SlT.row (T := 170) (by rw [List.length_map]) (actC_z _)).at hrw.head
  have hai : ((la ++ [a]).map actC)[la.length]? = some (actC a) := by simp
  refine z7 ?_
  refine lD (v := .slice (some ⟨ab, 0, none⟩) (la ++ [a]).length ac) one_sl_vault_act hw ?_
  refine x_len rfl rfl trivial (by kernel_rfl) U_sl_vault_act rfl ?_
  refine z9 ?_
  refine lD (v := .slice (some ⟨ab, 0, none⟩) (la ++ [a]).length ac) one_sl_vault_act hw ?_
  refine z1 ?_
  refine x_idx rfl rfl trivial U_sl_vault_act sz_vault_act rfl rfl ⟨by omega, by omega⟩ ?_
  refine x_ld rfl rfl trivial rfl (Loads.many (cs := actC a) many_vault_act rfl (by rw [show (((la ++ [a]).length : Int) - 1).toNat = la.length by rw [hll]; omega]; exact hsl.at hai)) ?_
  have hz := hw.b [both ((la ++ [a]).map wasO)]
  rw [show (la ++ [a]).map wasO = la.map wasO ++ [wasO a] by simp] at hz
  have hz := both_unsnoc hz
  have hpy := hyb.pf
  have hvy := hyb.vf
  refine x_call rfl rfl trivial cal_vault_Vault_back rfl (ct_vault_Vault_back (V := y) (m := ⟨q, om, .slice (some ⟨ab, 0, none⟩) (la ++ [a]).length ac, on, S, la ++ [a]⟩) (mk := a.1) (sv := a.2.1) (ws := a.2.2) (hz.b [blk vq _ _, mapI _ _, stO _, poA _ _, row 212 _ _ _ _]) hf.g wasRow (fun x hx => hf.acsS a (by simp) x hx) (by omega) hyb.po ⟨hpy, by unfold Va.sz at hps hsz; omega⟩ hmrk) rfl (fun w v36 hv => ?_)
  obtain ⟨rfl, on', hg, hw⟩ := hv
  have hpop : y.pop = { y.back a.1 (a.2.2.map wasP) with va := la.map actP } := by
   unfold Va.pop
   rw [hlast, hva]
   simp only [List.dropLast_concat]
   rfl
  refine z6 ?_
  refine lD (v := .slice (some ⟨ab, 0, none⟩) (la ++ [a]).length ac) one_sl_vault_act hw ?_
  refine z1 ?_
  refine x_cutH rfl rfl trivial U_sl_vault_act szs_vault_act rfl (by simp) rfl ⟨by omega, by omega⟩ ?_
  refine z2 ?_
  refine x_st1 (l' := [_, _, _, _]) rfl trivial rfl rfl one_sl_vault_act rfl hw pK rfl rfl rfl (fun w hw => ?_)
  refine xl_nil ?_
  have hz := hw.b [row 170 _ _ _ _]
  have hz := row_cutT hz (by rw [List.length_map]) (actC_z _) (j := la.length) (by omega)
  have e1 : ((la ++ [a]).map actC).take la.length = la.map actC := by rw [List.map_append]; exact List.take_left' (by simp)
  rw [e1] at hz
  have hz := hz.b [row 212 _ _ _ _, blk vq _ _, mapI _ _, stO _, row 170 _ _ _ _, both _, poA _ _]
  refine ⟨(V.mark - mk).toNat - (j + 1), by omega, [(0, _), (1, _)], sB, j + 1, by omega, rfl, rfl, ?_⟩
  rw [popN_succ, ← hy, hpop]
  have e2 : (((la ++ [a]).length : Int) - 1).toNat = la.length := by rw [hll]; omega
  rw [e2] at hz
  exact vaA_shut (V := { y.back a.1 (a.2.2.map wasP) with va := la.map actP }) (m := ⟨q, om, .slice (some ⟨ab, 0, none⟩) la.length ac, on', S, la⟩) ⟨hg.on, hg.onS, hg.sm, rfl, fun x hx => hf.acsS x (List.mem_append_left _ hx)⟩ hz.tail
 refine z6 ?_
 exact end1 rfl rfl rfl (.inr ⟨by omega, by omega, rfl, by
 have hje : j = (V.mark - mk).toNat := by omega
 rw [← hje, ← hy]; exact hw⟩)
end
def searchK (key : Bys) : List It → Nat → Nat × Bool
 | [], at_ => (at_, false)
 | x :: r, at_ => if 0 ≤ cmpB x.key key then (at_, decide (cmpB x.key key = 0)) else searchK key r (at_ + 1)
def routeG (key : Bys) : List It → Nat → Nat
 | [], at_ => at_ - 1
 | x :: r, at_ => if 0 < cmpB x.key key then at_ - 1 else routeG key r (at_ + 1)
def routeK (key : Bys) (l : List It) : Nat := routeG key (l.drop 1) 1
theorem searchK_at (key : Bys) : ∀ (l : List It) (k a : Nat) (x : It), l[k]? = some x → (∀ (j : Nat) (y : It), j < k → l[j]? = some y → ¬ 0 ≤ cmpB y.key key) → searchK key l a = searchK key (l.drop k) (a + k)
 | l, 0, a, x, _, _ => by simp
 | [], k + 1, a, x, h, _ => by simp at h
 | y :: l, k + 1, a, x, h, hj => by
  have h0 := hj 0 y (by omega) rfl
  rw [searchK, if_neg h0, List.drop_succ_cons, searchK_at key l k (a + 1) x (by simpa using h) (fun j z h1 h2 => hj (j + 1) z (by omega) (by simpa using h2))]
  congr 1; omega
theorem searchK_none (key : Bys) : ∀ (l : List It) (a : Nat), (∀ y ∈ l, ¬ 0 ≤ cmpB y.key key) → searchK key l a = (a + l.length, false)
 | [], a, _ => rfl
 | y :: l, a, h => by
  rw [searchK, if_neg (h y (List.mem_cons_self ..)), searchK_none key l (a + 1) (fun z hz => h z (List.mem_cons_of_mem _ hz)), List.length_cons]
  congr 1; omega
theorem PgV.Ok.ones {L : List Assn} {p : PgV} (h : p.Ok L) {G : Gh} {w : World} (hw : Sat G L w) : Ones p.cells := ones_pg h hw
section
variable {G : Gh} {L R : List Assn} {w : World}
theorem ct_node_Search {p : PgV} {kv : Value} {key : Bys} (hw : Sat G L w) (hp : p.Ok L) (kk : Knows L (SlB kv key)) : Calls Tryz.prog 80 #[.agg p.cells.toArray, kv] w (Ret fun r w' => r = .tuple #[.int .i64 (searchK key p.pg.items 0).1, .bool (searchK key p.pg.items 0).2] ∧ Sat G L w') := by
 obtain ⟨a1, c1, a2, c2, hs, hd, hcl⟩ := hp.form hw
 obtain ⟨ka, kc, rfl⟩ := (kk.at hw).form
 have hsl := hp.its.sl
 have hln := hp.its.len
 rw [hcl]
 rw [hs] at hsl
 refine calls_of_x (args := [_, _]) Tryz.func80 rfl Tryz.ntmps80 rfl rfl ?_
 refine z2 ?_
 refine x_box rfl rfl trivial rfl rfl hw rfl (fun w b2 hw => ?_)
 refine z7 ?_
 refine lD one_sl_api_Item hw ?_
 refine z4 ?_
 refine x_loop (fun m e w => ∃ k : Nat, k ≤ p.l.length ∧ m = p.l.length - k ∧ e = [(1, .slice ka key.length kc), (2, .pointer (some ⟨b2, 0, none⟩)), (10, .slice a1 p.l.length c1), (11, .int .i64 p.l.length), (12, .int .i64 k)] ∧ (∀ (j : Nat) (y : It), j < k → p.pg.items[j]? = some y → ¬ 0 ≤ cmpB y.key key) ∧ Sat G (blk b2 [.int .i64 p.kind, .int .i64 p.level, .slice a1 p.l.length c1, .slice a2 p.data.length c2, .int .i64 p.next] 75 :: L) w)
  (m := p.l.length) (e₀ := [(1, .slice ka key.length kc), (2, .pointer (some ⟨b2, 0, none⟩)), (10, .slice a1 p.l.length c1), (11, .int .i64 p.l.length), (12, .int .i64 (0 : Nat))]) sB
  ⟨0, Nat.zero_le _, rfl, rfl, (fun j y h => by omega), hw⟩ ?_
 rintro m e w ⟨k, hk, rfl, rfl, hno, hw⟩
 refine z5 ?_
 refine x_if rfl (fun h1 => ?_) (fun h1 => ?_)
 ·
  have hk' : k < p.l.length := by omega
  obtain ⟨x, hx⟩ : ∃ x, p.l[k]? = some x := ⟨_, List.getElem?_eq_getElem hk'⟩
  have hxo := hp.its.it x (List.mem_of_getElem? hx)
  have hxr : (p.l.map ItV.cells)[k]? = some x.cells := by rw [List.getElem?_map, hx]; rfl
  have hxi : p.pg.items[k]? = some x.it := by show (p.l.map ItV.it)[k]? = _; rw [List.getElem?_map, hx]; rfl
  obtain ⟨bb, oo, rfl⟩ := ((hsl.of sF).at hw).nn (by rw [List.length_map]; omega)
  refine z6 ?_
  refine x_idx rfl rfl trivial U_sl_api_Item sz_api_Item rfl rfl ⟨by omega, by omega⟩ ?_
  refine x_ld rfl rfl trivial rfl (Loads.many (cs := x.cells) many_api_Item rfl (by rw [Int.toNat_natCast]; exact ((hsl.of sF).at hw).at hxr)) ?_
  refine x_alloc rfl rfl trivial z_api_Item hw rfl (fun w b7 hw => ?_)
  refine z1 ?_
  refine x_stN (cs := x.cells) (l' := x.cells) rfl trivial rfl rfl many_api_Item rfl (ones_cells (hxo.of sF) hw) hw pK (by simp [ItV.cells]) rfl rfl (fun w hw => ?_)
  refine z4 ?_
  refine lD (v := x.kv) one_sl_uint8 hw ?_
  refine z1 ?_
  refine x_call rfl rfl trivial cal_bytes_Compare rfl (ct_bytes_Compare hw (hxo.k.of sF) (kk.of sF)) rfl (fun w v20 hv => ?_)
  obtain ⟨rfl, hw⟩ := hv
  refine z7 ?_
  refine x_if rfl (fun h2 => ?_) (fun h2 => ?_)
  ·
   refine z9 ?_
   exact end2 rfl rfl rfl rfl (by
 have e := searchK_at key p.pg.items k 0 x.it hxi hno
 rw [drop_cons hxi, searchK, if_pos h2] at e
 rw [e]
 refine ⟨?_, (by repeat (first | exact hw | replace hw := hw.tail))⟩
 simp only [Nat.zero_add])
  refine z5 ?_
  have hw := (hw.b [blk b7 _ _]).tail
  refine ⟨p.l.length - (k + 1), by omega, [(1, _), (2, _), (10, _), (11, _), (12, .int .i64 (k + 1 : Nat))], sB, k + 1, by omega, rfl, rfl, fun j y hj hy => ?_, hw⟩
  by_cases hjk : j = k
  ·subst hjk
   rw [hxi] at hy; cases hy; exact h2
  exact hno j y (by omega) hy
 refine z4 ?_
 refine lD one_sl_api_Item hw ?_
 refine z5 ?_
 exact end2 rfl rfl rfl rfl (by
 have hke : k = p.l.length := by omega
 subst hke
 have e := searchK_none key p.pg.items 0 (fun y hy => by
  obtain ⟨j, hj, rfl⟩ := List.mem_iff_getElem.1 hy
  exact hno j _ (by simpa [PgV.pg] using hj) (List.getElem?_eq_getElem hj))
 rw [e]
 refine ⟨?_, (by repeat (first | exact hw | replace hw := hw.tail))⟩
 simp [PgV.pg])
theorem ct_node_Route {p : PgV} {kv : Value} {key : Bys} (hw : Sat G L w) (hp : p.Ok L) (kk : Knows L (SlB kv key)) : Calls Tryz.prog 122 #[.agg p.cells.toArray, kv] w (Ret fun r w' => r = .int .i64 (routeK key p.pg.items) ∧ Sat G L w') := by
 obtain ⟨a1, c1, a2, c2, hs, hd, hcl⟩ := hp.form hw
 obtain ⟨ka, kc, rfl⟩ := (kk.at hw).form
 have hsl := hp.its.sl
 have hln := hp.its.len
 rw [hcl]
 rw [hs] at hsl
 refine calls_of_x (args := [_, _]) Tryz.func122 rfl Tryz.ntmps122 rfl rfl ?_
 refine z2 ?_
 refine x_box rfl rfl trivial rfl rfl hw rfl (fun w b2 hw => ?_)
 refine z8 ?_
 refine x_loop (fun m e w => ∃ k : Nat, 1 ≤ k ∧ (k ≤ p.l.length ∨ k = 1) ∧ m = p.l.length - k ∧ e = [(1, .slice ka key.length kc), (2, .pointer (some ⟨b2, 0, none⟩)), (5, .int .i64 k)] ∧ routeK key p.pg.items = routeG key (p.pg.items.drop k) k ∧ Sat G (blk b2 [.int .i64 p.kind, .int .i64 p.level, .slice a1 p.l.length c1, .slice a2 p.data.length c2, .int .i64 p.next] 75 :: L) w)
  (m := p.l.length - 1) (e₀ := [(1, .slice ka key.length kc), (2, .pointer (some ⟨b2, 0, none⟩)), (5, .int .i64 (1 : Nat))]) sB
  ⟨1, Nat.le_refl _, .inr rfl, rfl, rfl, rfl, hw⟩ ?_
 rintro m e w ⟨k, hk1, hk2, rfl, rfl, hro, hw⟩
 refine z5 ?_
 refine lD one_sl_api_Item hw ?_
 refine z3 ?_
 refine x_if rfl (fun h1 => ?_) (fun h1 => ?_)
 ·
  have hk' : k < p.l.length := by omega
  obtain ⟨x, hx⟩ : ∃ x, p.l[k]? = some x := ⟨_, List.getElem?_eq_getElem hk'⟩
  have hxo := hp.its.it x (List.mem_of_getElem? hx)
  have hxr : (p.l.map ItV.cells)[k]? = some x.cells := by rw [List.getElem?_map, hx]; rfl
  have hxi : p.pg.items[k]? = some x.it := by show (p.l.map ItV.it)[k]? = _; rw [List.getElem?_map, hx]; rfl
  rw [drop_cons hxi, routeG] at hro
  obtain ⟨bb, oo, rfl⟩ := ((hsl.of sF).at hw).nn (by rw [List.length_map]; omega)
  refine z6 ?_
  refine lD one_sl_api_Item hw ?_
  refine z1 ?_
  refine x_idx rfl rfl trivial U_sl_api_Item sz_api_Item rfl rfl ⟨by omega, by omega⟩ ?_
  refine x_fldk rfl rfl trivial fo_api_Item_0 rfl ?_
  refine x_ld rfl rfl trivial rfl (Loads.one (v := x.kv) one_sl_uint8 (((hsl.of sF).at hw).cell hxr rfl)) ?_
  refine z1 ?_
  refine x_call rfl rfl trivial cal_bytes_Compare rfl (ct_bytes_Compare hw (hxo.k.of sF) (kk.of sF)) rfl (fun w v20 hv => ?_)
  obtain ⟨rfl, hw⟩ := hv
  refine z2 ?_
  refine x_if rfl (fun h2 => ?_) (fun h2 => ?_)
  ·
   refine z7 ?_
   exact end1 rfl rfl rfl (by
 rw [if_pos h2] at hro
 rw [hro]
 refine ⟨?_, (by repeat (first | exact hw | replace hw := hw.tail))⟩
 congr 1; omega)
  refine z6 ?_
  rw [if_neg h2] at hro
  exact ⟨p.l.length - (k + 1), by omega, [(1, _), (2, _), (5, .int .i64 (k + 1 : Nat))], sB, k + 1, by omega, by omega, rfl, rfl, hro, hw⟩
 refine z4 ?_
 refine lD one_sl_api_Item hw ?_
 refine z2 ?_
 refine x_max2 rfl rfl trivial rfl rfl ?_
 refine z3 ?_
 exact end1 rfl rfl rfl (by
 rw [List.drop_eq_nil_of_le (by simp [PgV.pg]; omega), routeG] at hro
 rw [hro]
 refine ⟨?_, (by repeat (first | exact hw | replace hw := hw.tail))⟩
 congr 1; omega)
theorem ct_node_fresh {x : ItV} (hw : Sat G L w) (hx : x.Ok L) : Calls Tryz.prog 174 #[.agg x.cells.toArray] w (Ret fun r w' => ∃ x' : ItV, r = .agg x'.cells.toArray ∧ x'.it = x.it ∧ Ones x'.cells ∧ Sat G (both (itParts x') :: L) w') := by
 refine calls_of_x (args := [_]) Tryz.func174 rfl Tryz.ntmps174 rfl rfl ?_
 refine z2 ?_
 refine x_box rfl rfl trivial rfl rfl hw rfl (fun w b1 hw => ?_)
 refine x_alloc rfl rfl trivial z_api_Item hw rfl (fun w b2 hw => ?_)
 refine z2 ?_
 refine x_draw [0, 1, 3, 4, 2, 6, 5, 7, 8, 9] mixed (by kernel_rfl) ?_
 replace hw := hw.drawn (w.drawn + 1)
 refine z1 ?_
 refine lD (v := x.kv) one_sl_uint8 hw ?_
 refine z1 ?_
 refine lD (v := x.vv) one_sl_uint8 hw ?_
 refine x_callP rfl rfl trivial cal_bytes_Clone rfl (ct_bytes_Clone hw (hx.k.of sF) hx.sk) (fun w v5 hv q' hq => ?_) (fun w v5 hv => ?_)
 ·
  have hw : Sat G (row 5 1 v5 x.it.key.length (bys x.it.key) :: _) _ := hv
  have hq := pend_mem (l := [4]) (by kernel_rfl) hq
  simp only [List.mem_cons, List.not_mem_nil, or_false] at hq
  subst hq
  exact chk_ld rfl rfl rfl (Loads.blk1 (v := x.vv) one_sl_uint8 hw pK rfl)
 have hw : Sat G (row 5 1 v5 x.it.key.length (bys x.it.key) :: _) _ := hv
 refine z1 ?_
 refine x_call rfl rfl trivial cal_bytes_Clone rfl (ct_bytes_Clone hw (hx.v.of sF) hx.sv) (by kernel_rfl) (fun w v8 hv => ?_)
 have hw : Sat G (row 5 1 v8 x.it.value.length (bys x.it.value) :: _) _ := hv
 obtain ⟨a5, c5, rfl⟩ := row_form (hw.pick (A := row 5 1 v5 _ _) pK)
 obtain ⟨a8, c8, rfl⟩ := row_form (hw.pick (A := row 5 1 v8 _ _) pK)
 have hones : Ones [.slice a5 x.it.key.length c5, .slice a8 x.it.value.length c8, .int .i64 x.it.child, .int .i64 x.it.size] := by intro u hu; simp at hu; rcases hu with rfl | rfl | rfl | rfl <;> rfl
 refine x_st1 (l' := [_, _, _, _]) rfl trivial rfl rfl one_sl_uint8 rfl hw pK rfl rfl (by kernel_rfl) (fun w hw => ?_)
 refine z1 ?_
 refine x_st1 (l' := [_, _, _, _]) rfl trivial rfl rfl one_sl_uint8 rfl hw pK rfl rfl (by kernel_rfl) (fun w hw => ?_)
 refine z3 ?_
 refine x_ld rfl rfl trivial rfl (Loads.blkA (l := [.slice a5 x.it.key.length c5, .slice a8 x.it.value.length c8, .int .i64 x.it.child, .int .i64 x.it.size]) many_api_Item hw pK (by simp)) ?_
 refine x_stN (cs := [.slice a5 x.it.key.length c5, .slice a8 x.it.value.length c8, .int .i64 x.it.child, .int .i64 x.it.size]) (l' := [.slice a5 x.it.key.length c5, .slice a8 x.it.value.length c8, .int .i64 x.it.child, .int .i64 x.it.size]) rfl trivial rfl rfl many_api_Item rfl hones hw pK (by simp) rfl rfl (fun w hw => ?_)
 refine z2 ?_
 exact end1 rfl rfl ⟨_, rfl, (Loads.blkA many_api_Item hw pK (by simp))⟩ (by
 refine ⟨⟨x.it, .slice a5 x.it.key.length c5, .slice a8 x.it.value.length c8⟩, rfl, rfl, hones, ?_⟩
 exact Sat.both_in (M := itParts _) ((hw.b [blk b1 _ _, blk b2 _ _, row 5 1 (.slice a5 _ _) _ _, row 5 1 (.slice a8 _ _) _ _]).tail.tail))
end
section
variable {P : Program} {n : Nat} {ops : Array Oper} {dr : Bool} {done r : List Nat} {K : Env → World → Prop} {e : Env} {w : World} {i d : Nat} {t s : TypeId} {p : String} {af : Array Edge} {g : Option (Nat × Bool)} {x : Operand}
theorem x_cutLT {c : TypeId} {q : Option Addr} {len cap z : Nat} {lo : Int} {kl : IntKind} {l : Operand} (ho : ops[i]? = some ⟨some d, .slice s x (some l) none none, t, p, af, g⟩) (hd : Nat.blt d n = true) (hg : Gd ops e g) (hs : P.underlying s = some (.slice c)) (hz : (P.info? c).map (·.size) = some z)
  (hx : ev e x = some (.slice q len cap)) (hl : ev e l = some (.int kl lo)) (hb : 0 ≤ lo ∧ lo ≤ len) (hc : len ≤ cap) (hq : lo < cap → ∃ b o, q = some ⟨b, o, none⟩)
  (h : ∀ v', (∀ b o, q = some ⟨b, o, none⟩ → lo < cap → v' = .slice (some ⟨b, o + lo.toNat * z, none⟩) (len - lo.toNat) (cap - lo.toNat)) → (lo = cap → v' = .slice q 0 0) → XL P n ops dr (i :: done) r K ((d, v') :: e) w) : XL P n ops dr done (i :: r) K e w := by
 by_cases hlc : lo < cap
 ·obtain ⟨b, o, rfl⟩ := hq hlc
  exact x_cutL ho hd hg hs hz hx hl hb hlc (h _ (fun b' o' h1 _ => by cases h1; rfl) (fun h1 => by omega))
 have hlen : len = cap := by omega
 subst hlen
 exact x_cutLz ho hd hg hs (by rw [hz]; rfl) hx hl (by omega) (h _ (fun b' o' _ h1 => absurd h1 hlc) (fun _ => rfl))
end
theorem flatten_take {z : Nat} : ∀ {rs : List (List Value)} {j : Nat}, (∀ r ∈ rs, r.length = z) → (rs.take j).flatten = rs.flatten.take (j * z)
 | [], j, _ => by simp
 | r :: rs, 0, _ => by simp
 | r :: rs, j + 1, h => by
  have hr := h r (List.mem_cons_self ..)
  have ih := flatten_take (rs := rs) (j := j) (fun x hx => h x (List.mem_cons_of_mem _ hx))
  simp only [List.take_succ_cons, List.flatten_cons]
  rw [ih, show (j + 1) * z = r.length + j * z by rw [Nat.add_mul]; omega, List.take_length_add_append]
theorem flatten_drop {z : Nat} : ∀ {rs : List (List Value)} {j : Nat}, (∀ r ∈ rs, r.length = z) → (rs.drop j).flatten = rs.flatten.drop (j * z)
 | [], j, _ => by simp
 | r :: rs, 0, _ => by simp
 | r :: rs, j + 1, h => by
  have hr := h r (List.mem_cons_self ..)
  have ih := flatten_drop (rs := rs) (j := j) (fun x hx => h x (List.mem_cons_of_mem _ hx))
  simp only [List.drop_succ_cons, List.flatten_cons]
  rw [ih, show (j + 1) * z = r.length + j * z by rw [Nat.add_mul]; omega, List.drop_length_add_append]
theorem SlT.take {z m cap : Nat} {a : Option Addr} {rs : List (List Value)} {w : World} (h : SlT z (.slice a m cap) rs w) {j cap' : Nat} (hj : j ≤ rs.length) (hc : j ≤ cap') (h0 : rs = [] → cap' = 0) : SlT z (.slice a j cap') (rs.take j) w ∨ a = none := by
 rcases h with ⟨a', h1, h2, rfl⟩ | ⟨b, o, c, h1, h2, h3, h4⟩
 ·cases h1
  cases a with
  | none => exact .inr rfl
  | some a =>
   have : j = 0 := by simpa using hj
   subst this
   rw [h0 rfl]
   exact .inl (.inl ⟨_, rfl, fun _ _ => rfl, by simp⟩)
 cases h1
 refine .inl (.inr ⟨b, o, cap', by rw [List.length_take]; congr 1; omega, by rw [List.length_take]; omega, fun r hr => h3 r (List.mem_of_mem_take hr), ?_⟩)
 rw [flatten_take h3]; exact h4.take _
theorem ItsOk.take {L : List Assn} {a : Option Addr} {m cap : Nat} {l : List ItV} (h : ItsOk L (.slice a m cap) l) {j : Nat} (hj : j ≤ l.length) (hn : a = none → cap = 0) : ItsOk L (.slice a j j) (l.take j) :=
 ⟨fun g w hw => by
  have h1 := h.sl.at hw
  rw [List.map_take]
  rcases h1.take (j := j) (cap' := j) (by rw [List.length_map]; exact hj) (Nat.le_refl _) (fun h => by have := congrArg List.length h; rw [List.length_map] at this; simp at this; simp [this] at hj; exact hj) with h2 | h2
  ·exact h2
  ·subst h2
   have hl := h1.form
   obtain ⟨a, c, h3, h4, _⟩ := hl
   cases h3
   rw [hn rfl, List.length_map] at h4
   have : j = 0 := by omega
   subst this
   exact .inl ⟨none, rfl, (fun x hx => by cases hx), rfl⟩, fun x hx => h.it x (List.mem_of_mem_take hx), by have := h.len; rw [List.length_take]; omega⟩
theorem ItsOk.drop {L : List Assn} {a : Option Addr} {m cap : Nat} {l : List ItV} (h : ItsOk L (.slice a m cap) l) {j : Nat} {v' : Value} (hj : j ≤ l.length)
  (h1 : ∀ b o, a = some ⟨b, o, none⟩ → (j : Int) < cap → v' = .slice (some ⟨b, o + (j : Int).toNat * 4, none⟩) (m - (j : Int).toNat) (cap - (j : Int).toNat)) (h2 : (j : Int) = cap → v' = .slice a 0 0) : ItsOk L v' (l.drop j) :=
 ⟨fun g w hw => by
  have h3 := h.sl.at hw
  rw [List.map_drop]
  rw [Int.toNat_natCast] at h1
  rcases h3 with ⟨a', e1, e2, e3⟩ | ⟨b, o, c, e1, e2, e3, e4⟩
  ·cases e1
   have : j = 0 := by have := congrArg List.length e3; simp at this; simp [this] at hj; exact hj
   subst this
   rw [h2 rfl, e3]
   exact .inl ⟨_, rfl, e2, rfl⟩
  ·cases e1
   rw [List.length_map] at e2
   by_cases hc : (j : Int) < cap
   ·rw [h1 b o rfl hc]
    refine .inr ⟨b, o + j * 4, cap - j, by simp, by simp; omega, fun r hr => e3 r (List.mem_of_mem_drop hr), ?_⟩
    rw [flatten_drop e3]; exact e4.drop _
   ·have hjc : j = cap := by omega
    rw [h2 (by omega), List.drop_eq_nil_of_le (by rw [List.length_map]; omega)]
    exact .inl ⟨_, rfl, (fun x hx => by cases hx; rfl), rfl⟩, fun x hx => h.it x (List.mem_of_mem_drop hx), by have := h.len; rw [List.length_drop]; omega⟩
def PlainS (v : Value) : Prop := ∀ a n c, v = .slice a n c → ∀ x, a = some x → x.spot = none
theorem SlT.plain {z : Nat} {v : Value} {rs : List (List Value)} {w : World} (h : SlT z v rs w) (hn : 0 < rs.length) : PlainS v := fun a n c e x hx => by
 subst e
 obtain ⟨b, o, rfl⟩ := h.nn hn
 cases hx; rfl
theorem pgO_plain {p : PgV} {G : Gh} {R : List Assn} {w : World} (h : Sat G (pgO p :: R) w) : PlainS p.s := fun a n c e x hx => by
 have h1 := Sat.both_out (M := pgParts p) h
 simp only [pgParts, List.cons_append, List.nil_append] at h1
 obtain ⟨_, h2 | ⟨b, cap, cur, h2, _⟩⟩ := row_open h1
 ·rw [h2.1] at e; cases e; cases hx
 rw [h2] at e; cases e; cases hx; rfl
theorem SlT.some_of {z m cap : Nat} {a : Option Addr} {rs : List (List Value)} {w : World} (h : SlT z (.slice a m cap) rs w) : rs.length ≤ cap ∧ (0 < cap → ∃ b o, a = some ⟨b, o, none⟩) ∧ (a = none → cap = 0) := by
 rcases h with ⟨a', h1, h2, rfl⟩ | ⟨b, o, c, h1, h2, h3, h4⟩
 ·cases h1; exact ⟨Nat.zero_le _, fun h => absurd h (by omega), fun _ => rfl⟩
 cases h1; exact ⟨h2, fun _ => ⟨b, o, rfl⟩, (fun h => by cases h)⟩
theorem flat_len {pcs : List (Value × List ItV)} (h1 : pcs.length ≤ 1000) (h2 : ∀ x ∈ pcs, x.2.length ≤ 1000000) (k : Nat) : ((pcs.take k).flatMap (·.2)).length ≤ 1000000000 := by
 have key : ∀ (l : List (Value × List ItV)), (∀ x ∈ l, x.2.length ≤ 1000000) → (l.flatMap (·.2)).length ≤ l.length * 1000000 := by
  intro l
  induction l with
  | nil => intro _; simp
  | cons x l ih =>
   intro h
   have h3 := ih (fun y hy => h y (List.mem_cons_of_mem _ hy))
   have h4 := h x (List.mem_cons_self ..)
   rw [List.flatMap_cons, List.length_append, List.length_cons]; omega
 have h3 := key (pcs.take k) (fun x hx => h2 x (List.mem_of_mem_take hx))
 have h4 : (pcs.take k).length ≤ 1000 := by rw [List.length_take]; omega
 omega
section
variable {G : Gh} {L R : List Assn} {w : World}
theorem ct_node_parts {v : Value} {l : List ItV} {at_ : Nat} (hw : Sat G L w) (hl : ItsOk L v l) (hsp : PlainS v) (ha : at_ ≤ l.length) : Calls Tryz.prog 145 #[v, .int .i64 at_] w (Ret fun r w' => ∃ va vb, r = .tuple #[va, vb] ∧ ItsOk L va (l.take at_) ∧ ItsOk L vb (l.drop at_) ∧ Sat G L w') := by
 obtain ⟨a, c, rfl, -, -⟩ := (hl.sl.at hw).form
 obtain ⟨hc1, hc2, hc3⟩ := (hl.sl.at hw).some_of
 have hc4 := hsp _ _ _ rfl
 rw [List.length_map] at hc1
 have hlen : (l.map ItV.cells).length = l.length := List.length_map ..
 refine calls_of_x (args := [_, _]) Tryz.func145 rfl Tryz.ntmps145 rfl rfl ?_
 refine z6 ?_
 refine x_draw [0, 1, 2, 3, 4, 5, 6, 7, 8] mixed (by kernel_rfl) ?_
 replace hw := hw.drawn (w.drawn + 1)
 refine z3 ?_
 refine x_cut3H rfl rfl trivial U_sl_api_Item szs_api_Item rfl hc4 rfl rfl ⟨by omega, by omega, by omega⟩ ?_
 refine z2 ?_
 refine x_cutLT rfl rfl trivial U_sl_api_Item sz_api_Item rfl rfl ⟨by omega, by omega⟩ (by omega) (fun h => hc2 (by omega)) (fun v12 h12a h12b => ?_)
 refine z4 ?_
 exact end2 rfl rfl rfl rfl ⟨_, v12, rfl, by
 have h := hl.take ha hc3
 simpa using h, hl.drop ha h12a h12b, hw⟩
theorem ct_node_meant {p : PgV} (hw : Sat G L w) : Calls Tryz.prog 190 #[.agg p.cells.toArray] w (Ret fun r w' => r = .bool (decide (p.kind = 1 ∨ p.kind = 2)) ∧ Sat G L w') := by
 refine calls_of_x (args := [_]) Tryz.func190 rfl Tryz.ntmps190 rfl rfl ?_
 refine z2 ?_
 refine x_box rfl rfl trivial rfl rfl hw rfl (fun w b1 hw => ?_)
 refine z5 ?_
 refine lD (v := .int .i64 p.kind) one_int hw ?_
 refine z2 ?_
 refine xl_and (l1 := [4, 5, 6, 7]) (l2 := [8]) rfl (d := 10) (p.kind = 1 ∨ p.kind = 2) rfl ?_ ?_
 ·
  refine xl_split (d := 6) rfl (fun h1 => ?_) (fun h1 => ?_)
  ·
   refine z5 ?_
   refine cQ ?_
   exact dC
  refine z1 ?_
  refine lD (v := .int .i64 p.kind) one_int hw ?_
  refine z3 ?_
  refine cQ ?_
  exact dC
 refine z3 ?_
 exact end1 rfl rfl rfl ⟨rfl, (hw.b [blk b1 _ _]).tail⟩
theorem ct_node_with {p : PgV} {pv : Value} {pcs : List (Value × List ItV)} (hw : Sat G L w) (hp : p.Ok L) (hpv : Knows L (SlV pv (pcs.map (·.1)))) (hit : ∀ x ∈ pcs, ItsOk L x.1 x.2) (hlen : pcs.length ≤ 1000) (hall : ∀ x ∈ pcs, x.2.length ≤ 1000000) :
  Calls Tryz.prog 146 #[.agg p.cells.toArray, pv] w (Ret fun r w' => ∃ p' : PgV, r = .agg p'.cells.toArray ∧ p'.pg = ⟨p.kind, p.level, (pcs.flatMap (·.2)).map ItV.it, p.data, p.next⟩ ∧ p'.Sm ∧ Sat G (pgO p' :: L) w') := by
 obtain ⟨a1, c1, a2, c2, hs, hd, hcl⟩ := hp.form hw
 obtain ⟨pa, pc, rfl⟩ := (hpv.at hw).form
 rw [List.length_map] at hpv ⊢
 rw [hcl]
 have hdt := hp.data
 rw [hd] at hdt
 refine calls_of_x (args := [_, _]) Tryz.func146 rfl Tryz.ntmps146 rfl rfl ?_
 refine z2 ?_
 refine x_box rfl rfl trivial rfl rfl hw rfl (fun w b2 hw => ?_)
 refine x_alloc rfl rfl trivial z_api_Page hw rfl (fun w b4 hw => ?_)
 refine z4 ?_
 refine lD one_sl_uint8 hw ?_
 refine x_call rfl rfl trivial cal_bytes_Clone rfl (ct_bytes_Clone hw (hdt.of sF) hp.sd) rfl (fun w v11 hv => ?_)
 have hw : Sat G (row 5 1 v11 p.data.length (bys p.data) :: _) _ := hv
 obtain ⟨a11, c11, rfl⟩ := row_form hw
 refine z1 ?_
 refine x_st1 (l' := [_, _, _, _, _]) rfl trivial rfl rfl one_sl_uint8 rfl hw pK rfl rfl rfl (fun w hw => ?_)
 refine z4 ?_
 refine x_st1 (l' := [_, _, _, _, _]) rfl trivial rfl rfl one_sl_api_Item rfl hw pK rfl rfl rfl (fun w hw => ?_)
 refine z5 ?_
 refine x_len rfl rfl trivial (by kernel_rfl) U_sl_sl_api_Item rfl ?_
 refine z3 ?_
 have hw := row_nil (Sat.both_in (M := ([] : List ItV).flatMap itParts) hw) 114 4
 have hw := hw.b [blk b2 _ _, row 114 4 _ _ _, both _, row 5 1 _ _ _, blk b4 _ _]
 refine x_loop (fun m e w => ∃ (k : Nat) (dn : List ItV) (u : Value), k ≤ pcs.length ∧ m = pcs.length - k ∧ e = [(2, .pointer (some ⟨b2, 0, none⟩)), (4, .pointer (some ⟨b4, 0, none⟩)), (14, .slice pa pcs.length pc), (15, .int .i64 pcs.length), (16, .int .i64 k)] ∧ (dn.map ItV.it = ((pcs.take k).flatMap (·.2)).map ItV.it) ∧ Sat G (blk b2 [.int .i64 p.kind, .int .i64 p.level, u, .slice a11 p.data.length c11, .int .i64 p.next] 75 :: row 114 4 u dn.length (dn.map ItV.cells).flatten :: both (dn.flatMap itParts) :: row 5 1 (.slice a11 p.data.length c11) p.data.length (bys p.data) :: blk b4 [.int .i64 0, .int .i64 0, .slice none 0 0, .slice none 0 0, .int .i64 0] 75 :: L) w)
  (m := pcs.length) (e₀ := [(2, .pointer (some ⟨b2, 0, none⟩)), (4, .pointer (some ⟨b4, 0, none⟩)), (14, .slice pa pcs.length pc), (15, .int .i64 pcs.length), (16, .int .i64 (0 : Nat))]) sB
  ⟨0, [], .slice none 0 0, Nat.zero_le _, rfl, rfl, rfl, hw⟩ ?_
 rintro m e w ⟨k, dn, u, hk, rfl, rfl, hdn, hw⟩
 refine z5 ?_
 refine x_if rfl (fun h1 => ?_) (fun h1 => ?_)
 ·
  have hk' : k < pcs.length := by omega
  obtain ⟨⟨lv, l⟩, hx⟩ : ∃ x, pcs[k]? = some x := ⟨_, List.getElem?_eq_getElem hk'⟩
  have hxi := hit _ (List.mem_of_getElem? hx)
  have hxl := hall _ (List.mem_of_getElem? hx)
  have hxv : (pcs.map (·.1))[k]? = some lv := by rw [List.getElem?_map, hx]; rfl
  simp only at hxi hxl
  obtain ⟨la, lc, rfl, -, -⟩ := ((hxi.of sF).sl.at hw).form
  rw [List.length_map] at hxi hxv
  have hdl : dn.length ≤ 1000000000 := by
   have h := congrArg List.length hdn
   rw [List.length_map, List.length_map] at h
   rw [h]; exact flat_len hlen hall k
  obtain ⟨bb, oo, rfl⟩ := ((hpv.of sF).at hw).nn (by rw [List.length_map]; omega)
  refine z5 ?_
  refine x_idx1 rfl rfl trivial U_sl_sl_api_Item sz_sl_api_Item rfl rfl ⟨by omega, by omega⟩ ?_
  refine x_ld rfl rfl trivial rfl (Loads.one (v := .slice la l.length lc) one_sl_api_Item (((hpv.of sF).at hw).at (by rw [Int.toNat_natCast]; exact hxv))) ?_
  refine z9 ?_
  refine x_loop (fun m e w => ∃ (j : Nat) (dn : List ItV) (u : Value), j ≤ l.length ∧ m = l.length - j ∧ e = [(2, .pointer (some ⟨b2, 0, none⟩)), (4, .pointer (some ⟨b4, 0, none⟩)), (14, .slice (some ⟨bb, oo, none⟩) pcs.length pc), (15, .int .i64 pcs.length), (16, .int .i64 k), (20, .slice la l.length lc), (21, .int .i64 l.length), (22, .int .i64 j)] ∧ (dn.map ItV.it = ((pcs.take k).flatMap (·.2)).map ItV.it ++ (l.take j).map ItV.it ∧ dn.length ≤ 1000000000 + j) ∧ Sat G (blk b2 [.int .i64 p.kind, .int .i64 p.level, u, .slice a11 p.data.length c11, .int .i64 p.next] 75 :: row 114 4 u dn.length (dn.map ItV.cells).flatten :: both (dn.flatMap itParts) :: row 5 1 (.slice a11 p.data.length c11) p.data.length (bys p.data) :: blk b4 [.int .i64 0, .int .i64 0, .slice none 0 0, .slice none 0 0, .int .i64 0] 75 :: L) w)
   (m := l.length) (e₀ := [(2, .pointer (some ⟨b2, 0, none⟩)), (4, .pointer (some ⟨b4, 0, none⟩)), (14, .slice (some ⟨bb, oo, none⟩) pcs.length pc), (15, .int .i64 pcs.length), (16, .int .i64 k), (20, .slice la l.length lc), (21, .int .i64 l.length), (22, .int .i64 (0 : Nat))]) sB
   ⟨0, dn, u, Nat.zero_le _, rfl, rfl, ⟨by simp [hdn], by omega⟩, hw⟩ ?_
  rintro m e w ⟨j, dn, u, hj, rfl, rfl, ⟨hdn, hdl⟩, hw⟩
  refine z5 ?_
  refine x_if rfl (fun h2 => ?_) (fun h2 => ?_)
  ·
   have hj' : j < l.length := by omega
   obtain ⟨x, hy⟩ : ∃ x, l[j]? = some x := ⟨_, List.getElem?_eq_getElem hj'⟩
   have hyo := hxi.it x (List.mem_of_getElem? hy)
   have hyr : (l.map ItV.cells)[j]? = some x.cells := by rw [List.getElem?_map, hy]; rfl
   obtain ⟨bc, oc, rfl⟩ := ((hxi.of sF).sl.at hw).nn (by rw [List.length_map]; omega)
   refine z5 ?_
   refine x_idx rfl rfl trivial U_sl_api_Item sz_api_Item rfl rfl ⟨by omega, by omega⟩ ?_
   refine x_ld rfl rfl trivial rfl (Loads.many (cs := x.cells) many_api_Item rfl (by rw [Int.toNat_natCast]; exact ((hxi.of sF).sl.at hw).at hyr)) ?_
   refine x_alloc rfl rfl trivial z_api_Item hw rfl (fun w b8 hw => ?_)
   refine x_stN (cs := x.cells) (l' := x.cells) rfl trivial rfl rfl many_api_Item rfl (ones_cells (hyo.of sF) hw) hw pK (by simp [ItV.cells]) rfl rfl (fun w hw => ?_)
   refine xl_nil ?_
   refine x_draw [0, 1, 2, 3, 4, 5, 6, 7] mixed (by kernel_rfl) ?_
   replace hw := hw.drawn (w.drawn + 1)
   refine z1 ?_
   refine lD one_sl_api_Item hw ?_
   refine lA (l := x.cells) many_api_Item hw ?_
   refine x_callP rfl rfl trivial cal_node_fresh rfl (ct_node_fresh (x := x) hw (hyo.of sF)) (fun w v29 hv q' hq => ?_) (fun w v29 hv => ?_)
   ·
    obtain ⟨x', rfl, hxe, hones, hw⟩ := hv
    have hq := pend_mem (l := [1]) (by kernel_rfl) hq
    simp only [List.mem_cons, List.not_mem_nil, or_false] at hq
    subst hq
    exact chk_ld rfl rfl rfl (Loads.blk1 one_sl_api_Item hw pK rfl)
   obtain ⟨x', rfl, hxe, hones, hw⟩ := hv
   refine x_bs1P rfl rfl trivial U_sl_api_Item sz_api_Item zs_api_Item (by decide) rfl rfl rfl hw (fun w b30 hw q' hq => ?_) (fun w b30 hw => ?_)
   ·
    have hq := pend_mem (l := [1]) (by kernel_rfl) hq
    simp only [List.mem_cons, List.not_mem_nil, or_false] at hq
    subst hq
    exact chk_ld rfl rfl rfl (Loads.blk1 one_sl_api_Item hw pK rfl)
   refine x_app (m := dn.length) (k := 1) (news := x'.cells) rfl rfl trivial U_sl_api_Item sz_api_Item by_api_Item zs_api_Item rfl rfl hw pK (Rd.blk0 hw pK) rfl hones (by simp only [maxLen]; omega) (by omega) (by kernel_rfl) (fun w v31 hw => ?_)
   obtain ⟨a31, c31, rfl⟩ := row_form hw
   refine z1 ?_
   refine x_st1 (l' := [_, _, _, _, _]) rfl trivial rfl rfl one_sl_api_Item rfl hw pK rfl rfl (by kernel_rfl) (fun w hw => ?_)
   refine z5 ?_
   have hw := (hw.b [blk b30 _ _, blk b8 _ _, both (dn.flatMap itParts), both (itParts x')]).tail.tail.both_app
   have e1 : dn.flatMap itParts ++ itParts x' = (dn ++ [x']).flatMap itParts := by simp
   have e2 : (dn.map ItV.cells).flatten ++ x'.cells = ((dn ++ [x']).map ItV.cells).flatten := by simp
   rw [e1, e2] at hw
   have hz := hw.b [blk b2 _ _, row 114 4 _ _ _, both _, row 5 1 _ _ _, blk b4 _ _]
   refine ⟨l.length - (j + 1), by omega, [(2, _), (4, _), (14, _), (15, _), (16, _), (20, _), (21, _), (22, .int .i64 (j + 1 : Nat))], sB, j + 1, dn ++ [x'], .slice a31 (dn.length + 1) c31, by omega, rfl, rfl, ⟨?_, by simp; omega⟩, ?_⟩
   ·rw [take_step hy, List.map_append, List.map_append, hdn, ← List.append_assoc]; simp [hxe]
   rw [List.length_append, List.length_singleton]; exact hz
  refine z5 ?_
  have hje : j = l.length := by omega
  subst hje
  refine ⟨pcs.length - (k + 1), by omega, [(2, _), (4, _), (14, _), (15, _), (16, .int .i64 (k + 1 : Nat))], sB, k + 1, dn, u, by omega, rfl, rfl, ?_, hw⟩
  rw [take_step hx, List.flatMap_append, hdn, List.take_length]; simp
 have hke : k = pcs.length := by omega
 subst hke
 rw [List.take_length] at hdn
 obtain ⟨ua, uc, rfl⟩ := row_form (hw.pick (A := row 114 4 u _ _) pK)
 refine z3 ?_
 refine x_ld rfl rfl trivial rfl (Loads.blkA (l := [.int .i64 p.kind, .int .i64 p.level, .slice ua dn.length uc, .slice a11 p.data.length c11, .int .i64 p.next]) many_api_Page hw pK (by simp)) ?_
 refine x_stN (cs := [.int .i64 p.kind, .int .i64 p.level, .slice ua dn.length uc, .slice a11 p.data.length c11, .int .i64 p.next]) (l' := [.int .i64 p.kind, .int .i64 p.level, .slice ua dn.length uc, .slice a11 p.data.length c11, .int .i64 p.next]) rfl trivial rfl rfl many_api_Page rfl (by intro u hu; simp at hu; rcases hu with rfl | rfl | rfl | rfl | rfl <;> rfl) hw pK (by simp) rfl rfl (fun w hw => ?_)
 refine z2 ?_
 exact end1 rfl rfl ⟨_, rfl, (Loads.blkA many_api_Page hw pK (by simp))⟩ (by
 refine ⟨⟨p.kind, p.level, dn, .slice ua dn.length uc, .slice a11 p.data.length c11, p.data, p.next⟩, rfl, by simp only [PgV.pg, hdn], ⟨?_, fun y hy => ?_, hp.sd⟩, ?_⟩
 ·have h := congrArg List.length hdn
  rw [List.length_map, List.length_map] at h
  have h2 := flat_len hlen hall pcs.length
  rw [List.take_length] at h2
  show dn.length ≤ _; omega
 ·have : y.it ∈ (pcs.flatMap (·.2)).map ItV.it := hdn ▸ List.mem_map_of_mem hy
  obtain ⟨z, hz, hzy⟩ := List.mem_map.1 this
  obtain ⟨q, hq, hzq⟩ := List.mem_flatMap.1 hz
  rw [← hzy]; exact ⟨((hit q hq).it z hzq).sk, ((hit q hq).it z hzq).sv⟩
 ·have hw := (hw.b [blk b2 _ _, blk b4 _ _]).tail.tail
  refine Sat.both_in (M := pgParts _) ?_
  simp only [pgParts]
  exact hw)
end
def commonK : Bys → Bys → Nat
 | x :: a, y :: b => if x = y then commonK a b + 1 else 0
 | _, _ => 0
theorem commonK_le : ∀ a b : Bys, commonK a b ≤ a.length ∧ commonK a b ≤ b.length
 | [], b => by simp [commonK]
 | x :: a, [] => by simp [commonK]
 | x :: a, y :: b => by
  have := commonK_le a b
  simp only [commonK, List.length_cons]
  split <;> omega
theorem commonK_at : ∀ (a b : Bys) (k : Nat), k ≤ a.length → k ≤ b.length → (∀ j, j < k → a.getD j 0 = b.getD j 0) → commonK a b = k + commonK (a.drop k) (b.drop k)
 | a, b, 0, _, _, _ => by simp
 | [], b, k + 1, h, _, _ => by simp at h
 | x :: a, [], k + 1, _, h, _ => by simp at h
 | x :: a, y :: b, k + 1, h1, h2, h => by
  have h0 : x = y := by simpa using h 0 (by omega)
  have ih := commonK_at a b k (by simpa using h1) (by simpa using h2) (fun j hj => by simpa using h (j + 1) (by omega))
  simp only [commonK, if_pos h0, List.drop_succ_cons, ih]; omega
theorem commonK_ne {a b : Bys} {x y : UInt8} (h : x ≠ y) : commonK (x :: a) (y :: b) = 0 := if_neg h
def betweenK (a b : Bys) : Option Bys := if 0 ≤ cmpB a b then none else if 24 ≤ commonK a b then none else
 if commonK a b = a.length then some (b.take (commonK a b) ++ [0]) else some (b.take (commonK a b) ++ [a.getD (commonK a b) 0 + 1])
theorem cmpB_self : ∀ a : Bys, cmpB a a = 0 := fun a => cmpB_eq.2 rfl
theorem cmpB_lt_common : ∀ {a b : Bys}, cmpB a b < 0 → commonK a b < b.length
 | [], [], h => by simp [cmpB] at h
 | [], y :: b, _ => by simp [commonK]
 | x :: a, [], h => by simp [cmpB] at h
 | x :: a, y :: b, h => by
  simp only [cmpB] at h
  simp only [commonK, List.length_cons]
  split
  ·rename_i e; subst e
   rw [if_neg (by omega), if_neg (by omega)] at h
   have := cmpB_lt_common h; omega
  omega
theorem cmpB_lt_at : ∀ {a b : Bys}, cmpB a b < 0 → commonK a b < a.length → (a.getD (commonK a b) 0).toNat < (b.getD (commonK a b) 0).toNat
 | [], _, _, h => by simp at h
 | x :: a, [], h, _ => by simp [cmpB] at h
 | x :: a, y :: b, h, h2 => by
  simp only [cmpB] at h
  simp only [commonK] at h2 ⊢
  by_cases e : x = y
  ·subst e
   rw [if_pos rfl] at h2 ⊢
   rw [if_neg (by omega), if_neg (by omega)] at h
   simpa using cmpB_lt_at h (by simpa using h2)
  rw [if_neg e]
  simp only [List.getD_cons_zero]
  refine Decidable.byContradiction fun hn => ?_
  rw [if_neg hn] at h
  split at h
  ·omega
  rename_i h3
  exact e (UInt8.toNat_inj.1 (by omega))
theorem SlB.arm {b : Bys} {v : Value} {w : World} (h : SlB v b w) (hb : 0 < b.length) : ∃ bb ob c, v = .slice (some ⟨bb, ob, none⟩) b.length c ∧ b.length ≤ c := by
 rcases h with ⟨_, h⟩ | ⟨bb, ob, c, h1, h2, _⟩
 ·subst h; simp at hb
 exact ⟨bb, ob, c, h1, h2⟩
theorem SlB.takeK {L : List Assn} {b : Bys} {bb ob c : Nat} (h : Knows L (SlB (.slice (some ⟨bb, ob, none⟩) b.length c) b)) {j : Nat} (hj : j ≤ b.length) : Knows L (SlB (.slice (some ⟨bb, ob, none⟩) j j) (b.take j)) := fun g w hw => by
 rcases h.at hw with ⟨⟨a, h1⟩, h2⟩ | ⟨b', o', c', h1, h2, h3⟩
 ·subst h2
  have : j = 0 := by simpa using hj
  subst this
  exact .inl ⟨⟨_, rfl⟩, rfl⟩
 cases h1
 refine .inr ⟨bb, ob, j, by rw [List.length_take, Nat.min_eq_left hj], by rw [List.length_take]; omega, ?_⟩
 rw [bys_take]; exact h3.take _
theorem slT_blk {z b T : Nat} {r : List Value} (hr : r.length = z) : Knows [blk b r T] (SlT z (.slice (some ⟨b, 0, none⟩) 1 1) [r]) := fun g w hw =>
 .inr ⟨b, 0, 1, rfl, Nat.le_refl _, (fun x hx => by simp at hx; subst hx; exact hr), by simp only [List.flatten_cons, List.flatten_nil, List.append_nil]; have := Rd.of_blk (o := 0) hw .here; simpa using this⟩
theorem slV_blk {b T : Nat} {cs : List Value} : Knows [blk b cs T] (SlV (.slice (some ⟨b, 0, none⟩) cs.length cs.length) cs) := fun g w hw =>
 .inr ⟨b, 0, cs.length, rfl, Nat.le_refl _, by have := Rd.of_blk (o := 0) hw .here; simpa using this⟩
section
variable {G : Gh} {L R : List Assn} {w : World}
theorem ct_span_Common {va vb : Value} {a b : Bys} (hw : Sat G L w) (ka : Knows L (SlB va a)) (kb : Knows L (SlB vb b)) (ha : Small a) (hb : Small b) : Calls Tryz.prog 198 #[va, vb] w (Ret fun r w' => r = .int .i64 (commonK a b) ∧ Sat G L w') := by
 unfold Small at ha hb
 obtain ⟨pa, ca, rfl⟩ := (ka.at hw).form
 obtain ⟨pb, cb, rfl⟩ := (kb.at hw).form
 obtain ⟨n, hn⟩ : ∃ n : Nat, (n : Int) = min (a.length : Int) b.length := ⟨min a.length b.length, by omega⟩
 refine calls_of_x (args := [_, _]) Tryz.func198 rfl Tryz.ntmps198 rfl rfl ?_
 refine z10 ?_
 refine x_min2 rfl rfl trivial rfl rfl ?_
 rw [← hn]
 refine z9 ?_
 refine x_loop (fun m e w => ∃ k : Nat, k ≤ n ∧ m = n - k ∧ e = [(0, .slice pa a.length ca), (1, .slice pb b.length cb), (5, .int .i64 n), (12, .int .i64 n), (13, .int .i64 k)] ∧ (∀ j, j < k → a.getD j 0 = b.getD j 0) ∧ Sat G L w)
  (m := n) (e₀ := [(0, .slice pa a.length ca), (1, .slice pb b.length cb), (5, .int .i64 n), (12, .int .i64 n), (13, .int .i64 (0 : Nat))]) sB
  ⟨0, Nat.zero_le _, rfl, rfl, (fun j h => by omega), hw⟩ ?_
 rintro m e w ⟨k, hk, rfl, rfl, heq, hw⟩
 refine z5 ?_
 refine x_if rfl (fun h1 => ?_) (fun h1 => ?_)
 ·
  have hk' : k < n := by omega
  obtain ⟨ba, oa, _, h1a, _⟩ := (ka.at hw).arm (by omega)
  obtain ⟨bb, ob, _, h1b, _⟩ := (kb.at hw).arm (by omega)
  cases h1a
  cases h1b
  refine z9 ?_
  refine x_draw [0, 1, 2, 3, 4, 5, 6, 7, 8] mixed (by kernel_rfl) ?_
  replace hw := hw.drawn (w.drawn + 1)
  refine z2 ?_
  refine x_idx1 rfl rfl trivial U_sl_uint8 sz_uint8 rfl rfl ⟨by omega, by omega⟩ ?_
  refine x_ld rfl rfl trivial rfl (Loads.one one_uint8 (SlB.at (ka.at hw) (i := (k : Int)) ⟨by omega, by omega⟩)) ?_
  refine z2 ?_
  refine x_idx1 rfl rfl trivial U_sl_uint8 sz_uint8 rfl rfl ⟨by omega, by omega⟩ ?_
  refine x_ld rfl rfl trivial rfl (Loads.one one_uint8 (SlB.at (kb.at hw) (i := (k : Int)) ⟨by omega, by omega⟩)) ?_
  refine z2 ?_
  refine x_if rfl (fun h2 => ?_) (fun h2 => ?_)
  ·
   have hne : a.getD k 0 ≠ b.getD k 0 := fun e => h2 (by rw [Int.toNat_natCast, e])
   refine z6 ?_
   exact end1 rfl rfl rfl (by
 have e := commonK_at a b k (by omega) (by omega) heq
 have ea : a.drop k = a.getD k 0 :: a.drop (k + 1) := drop_cons (by rw [List.getD_eq_getElem?_getD, List.getElem?_eq_getElem (by omega)]; rfl)
 have eb : b.drop k = b.getD k 0 :: b.drop (k + 1) := drop_cons (by rw [List.getD_eq_getElem?_getD, List.getElem?_eq_getElem (by omega)]; rfl)
 rw [ea, eb, commonK_ne hne, Nat.add_zero] at e
 rw [e]; exact ⟨rfl, hw⟩)
  have he : a.getD k 0 = b.getD k 0 := by
   have h3 := Decidable.not_not.1 h2
   rw [Int.toNat_natCast] at h3
   exact UInt8.toNat_inj.1 (by omega)
  refine z5 ?_
  refine ⟨n - (k + 1), by omega, [(0, _), (1, _), (5, _), (12, _), (13, .int .i64 (k + 1 : Nat))], sB, k + 1, by omega, rfl, rfl, fun j hj => ?_, hw⟩
  by_cases hjk : j = k
  ·subst hjk; exact he
  exact heq j (by omega)
 refine z7 ?_
 exact end1 rfl rfl rfl (by
 have hke : k = n := by omega
 subst hke
 have e := commonK_at a b k (by omega) (by omega) heq
 have e0 : commonK (a.drop k) (b.drop k) = 0 := by
  rcases Nat.lt_or_ge k a.length with h | h
  ·rw [show b.drop k = [] from List.drop_eq_nil_of_le (by omega)]
   cases a.drop k <;> rfl
  ·rw [show a.drop k = [] from List.drop_eq_nil_of_le (by omega)]
   rfl
 rw [e0, Nat.add_zero] at e
 rw [e]; exact ⟨rfl, hw⟩)
theorem ct_span_Between {va vb : Value} {a b : Bys} (hw : Sat G L w) (ka : Knows L (SlB va a)) (kb : Knows L (SlB vb b)) (ha : Small a) (hb : Small b) : Calls Tryz.prog 196 #[va, vb] w (Ret fun r w' => (betweenK a b = none ∧ r = .tuple #[.slice none 0 0, .bool false] ∧ Sat G L w') ∨ (∃ s v, betweenK a b = some s ∧ r = .tuple #[v, .bool true] ∧ Sat G (row 5 1 v s.length (bys s) :: L) w')) := by
 obtain ⟨pa, ca, rfl⟩ := (ka.at hw).form
 obtain ⟨pb, cb, rfl⟩ := (kb.at hw).form
 refine calls_of_x (args := [_, _]) Tryz.func196 rfl Tryz.ntmps196 rfl rfl ?_
 refine z10 ?_
 refine x_call rfl rfl trivial cal_bytes_Compare rfl (ct_bytes_Compare hw ka kb) rfl (fun w v10 hv => ?_)
 obtain ⟨rfl, hw⟩ := hv
 refine z2 ?_
 refine x_if rfl (fun h1 => ?_) (fun h1 => ?_)
 ·
  refine z6 ?_
  exact end2 rfl rfl rfl rfl (.inl ⟨by unfold betweenK; rw [if_pos h1], rfl, hw⟩)
 have hlt : cmpB a b < 0 := by omega
 have hcl := cmpB_lt_common hlt
 have hca := (commonK_le a b).1
 obtain ⟨bb, ob, cb', h1b, hcap⟩ := (kb.at hw).arm (by omega)
 cases h1b
 refine z5 ?_
 refine x_call rfl rfl trivial cal_span_Common rfl (ct_span_Common hw ka kb ha hb) rfl (fun w v14 hv => ?_)
 obtain ⟨rfl, hw⟩ := hv
 refine z8 ?_
 refine x_if rfl (fun h2 => ?_) (fun h2 => ?_)
 ·
  refine z6 ?_
  exact end2 rfl rfl rfl rfl (.inl ⟨by unfold betweenK; rw [if_neg h1, if_pos (by omega)], rfl, hw⟩)
 refine z6 ?_
 refine x_cut3H rfl rfl trivial U_sl_uint8 szs_uint8 rfl (by simp) rfl rfl ⟨by omega, by omega, by omega⟩ ?_
 refine x_call rfl rfl trivial cal_span_fresh rfl (ct_span_fresh (m := 1) (l := b.take (commonK a b)) hw (by simpa using SlB.takeK kb (j := commonK a b) (by omega)) (by unfold Small at hb ⊢; rw [List.length_take]; omega) (by omega)) rfl (fun w v21 hv => ?_)
 have hw : Sat G (row 5 1 v21 (b.take (commonK a b)).length (bys (b.take (commonK a b))) :: L) w := hv
 have hbl : (b.take (commonK a b)).length = commonK a b := by rw [List.length_take]; omega
 rw [hbl] at hw
 refine z10 ?_
 refine x_if rfl (fun h3 => ?_) (fun h3 => ?_)
 ·
  have h3' : commonK a b = a.length := by omega
  refine z3 ?_
  refine x_bs1 rfl rfl trivial U_sl_uint8 sz_uint8 zs_uint8 (by decide) rfl rfl rfl hw rfl (fun w b27 hw => ?_)
  refine x_app (m := commonK a b) (k := 1) (news := bys [0]) rfl rfl trivial U_sl_uint8 sz_uint8 by_uint8 zs_uint8 rfl rfl hw pK (by have h := Rd.blk0 (hw.b [blk b27 _ _]) .here; exact h) rfl (ones_bys _) (by simp only [maxLen]; omega) (by omega) rfl (fun w v28 hw => ?_)
  refine z4 ?_
  exact end2 rfl rfl rfl rfl (.inr ⟨b.take (commonK a b) ++ [0], v28, by unfold betweenK; rw [if_neg h1, if_neg (by omega), if_pos h3'], rfl, by
 rw [List.length_append, hbl, bys_append]
 exact (hw.b [blk b27 _ _]).tail⟩)
 have h3' : ¬ commonK a b = a.length := by omega
 obtain ⟨ba, oa, _, h1a, _⟩ := (ka.at (hw.tail)).arm (by omega)
 cases h1a
 have hat := cmpB_lt_at hlt (by omega)
 have hbt := (b.getD (commonK a b) 0).toNat_lt
 refine z6 ?_
 refine x_idx1 rfl rfl trivial U_sl_uint8 sz_uint8 rfl rfl ⟨by omega, by omega⟩ ?_
 refine x_ld rfl rfl trivial rfl (Loads.one one_uint8 (SlB.at ((ka.of sF).at hw) (i := (commonK a b : Int)) ⟨by omega, by omega⟩)) ?_
 refine x_add rfl rfl trivial rfl rfl ?_
 have hbv : Value.int .u8 (IntKind.u8.wrap (((a.getD (commonK a b : Int).toNat 0).toNat : Int) + 1)) = bv (a.getD (commonK a b) 0 + 1) := by
  rw [Int.toNat_natCast]
  unfold bv
  congr 1
 refine x_bs1 rfl rfl trivial U_sl_uint8 sz_uint8 zs_uint8 (by decide) rfl rfl rfl hw rfl (fun w b35 hw => ?_)
 refine x_app (m := commonK a b) (k := 1) (news := bys [a.getD (commonK a b) 0 + 1]) rfl rfl trivial U_sl_uint8 sz_uint8 by_uint8 zs_uint8 rfl rfl hw pK (by have h := Rd.of_blk (o := 0) (hw.b [blk b35 _ _]) .here; rw [hbv] at h; simpa [bys] using h) rfl (ones_bys _) (by simp only [maxLen]; omega) (by omega) rfl (fun w v36 hw => ?_)
 refine z4 ?_
 exact end2 rfl rfl rfl rfl (.inr ⟨b.take (commonK a b) ++ [a.getD (commonK a b) 0 + 1], v36, by unfold betweenK; rw [if_neg h1, if_neg (by omega), if_neg h3'], rfl, by
 rw [List.length_append, hbl, bys_append]
 exact (hw.b [blk b35 _ _]).tail⟩)
theorem ct_node_Insert {p : PgV} {x : ItV} {at_ : Nat} (hw : Sat G L w) (hp : p.Ok L) (hsp : PlainS p.s) (hx : x.Ok L) : Calls Tryz.prog 85 #[.agg p.cells.toArray, .int .i64 at_, .agg x.cells.toArray] w (Ret fun r w' =>
  (¬ (at_ ≤ p.l.length ∧ p.l.length < 8) ∧ r = .tuple #[.agg pgZ.cells.toArray, .bool false] ∧ Sat G L w') ∨
  ((at_ ≤ p.l.length ∧ p.l.length < 8) ∧ ∃ p' : PgV, r = .tuple #[.agg p'.cells.toArray, .bool true] ∧ p'.pg = { p.pg with items := p.pg.items.take at_ ++ [x.it] ++ p.pg.items.drop at_ } ∧ p'.Sm ∧ Sat G (pgO p' :: L) w')) := by
 obtain ⟨a1, c1, a2, c2, hs, hd, hcl⟩ := hp.form hw
 have hln := hp.its.len
 obtain ⟨cl, hclE⟩ : ∃ cl, cl = p.cells := ⟨_, rfl⟩
 have hits := hp.its
 rw [hs] at hits
 have hsp2 := hsp
 rw [hs] at hsp2
 refine calls_of_x (args := [_, _, _]) Tryz.func85 rfl Tryz.ntmps85 rfl rfl ?_
 refine z2 ?_
 refine x_box rfl rfl trivial rfl rfl hw rfl (fun w b3 hw => ?_)
 refine x_box rfl rfl trivial rfl rfl hw rfl (fun w b5 hw => ?_)
 refine x_alloc rfl rfl trivial z_api_Page hw rfl (fun w b6 hw => ?_)
 refine z8 ?_
 refine xl_and (l1 := [3, 4, 5, 6, 7, 8]) (l2 := [9, 10, 11, 12, 13, 14]) rfl (d := 18) ((p.l.length : Int) < at_) rfl ?_ ?_
 ·
  refine xl_split (d := 12) rfl (fun h1 => ?_) (fun h1 => ?_)
  ·
   refine z7 ?_
   refine cQ ?_
   exact dC
  refine z2 ?_
  refine x_ld rfl rfl ⟨_, rfl, rfl⟩ rfl (Loads.blk1 (v := .slice a1 p.l.length c1) one_sl_api_Item hw pK (by rw [hcl]; rfl)) ?_
  refine x_len rfl rfl ⟨_, rfl, rfl⟩ (by kernel_rfl) U_sl_api_Item rfl ?_
  refine z3 ?_
  refine cQ ?_
  exact dC
 refine z1 ?_
 refine xl_and (l1 := [10, 11, 12, 13, 14]) (l2 := []) rfl (d := 24) ((p.l.length : Int) < at_ ∨ 8 ≤ (p.l.length : Int)) rfl ?_ ?_
 ·
  refine xl_split (d := 19) rfl (fun h2 => ?_) (fun h2 => ?_)
  ·
   refine z6 ?_
   refine cQ ?_
   exact dC
  refine z1 ?_
  refine x_ld rfl rfl ⟨_, rfl, rfl⟩ rfl (Loads.blk1 (v := .slice a1 p.l.length c1) one_sl_api_Item hw pK (by rw [hcl]; rfl)) ?_
  refine x_len rfl rfl ⟨_, rfl, rfl⟩ (by kernel_rfl) U_sl_api_Item rfl ?_
  refine z3 ?_
  refine cQ ?_
  exact dC
 refine xl_nil ?_
 refine x_if rfl (fun h3 => ?_) (fun h3 => ?_)
 ·
  refine z2 ?_
  refine x_build (v := .agg pgZ.cells.toArray) rfl rfl trivial rfl (fun w => by kernel_rfl) ?_
  refine x_stN (cs := pgZ.cells) (l' := pgZ.cells) rfl trivial rfl rfl many_api_Page rfl pgZ_ones hw pK (by simp [pgZ, PgV.cells]) rfl rfl (fun w hw => ?_)
  refine z3 ?_
  exact end2 rfl rfl ⟨_, rfl, (Loads.blkA many_api_Page hw pK rfl)⟩ rfl (.inl ⟨by omega, rfl, (hw.b [blk b6 _ _, blk b5 _ _, blk b3 _ _]).tail.tail.tail⟩)
 refine z4 ?_
 refine x_ld rfl rfl trivial rfl (Loads.blk1 (v := .slice a1 p.l.length c1) one_sl_api_Item hw pK (by rw [hcl]; rfl)) ?_
 refine z1 ?_
 refine x_call rfl rfl trivial cal_node_parts rfl (ct_node_parts (l := p.l) hw (hits.of sF) hsp2 (by omega)) rfl (fun w v30 hv => ?_)
 obtain ⟨va, vb, rfl, hta, htb, hw⟩ := hv
 obtain ⟨aa, ac, rfl, -, -⟩ := ((hta.of sF).sl.at hw).form
 obtain ⟨ba, bc, rfl, -, -⟩ := ((htb.of sF).sl.at hw).form
 refine z8 ?_
 refine lA many_api_Page hw ?_
 refine z1 ?_
 refine lA many_api_Item hw ?_
 refine x_bs1 rfl rfl trivial U_sl_api_Item sz_api_Item zs_api_Item (by decide) rfl rfl rfl hw rfl (fun w b36 hw => ?_)
 refine z1 ?_
 refine x_bsN (cs := [.slice aa ((p.l.take at_).map ItV.cells).length ac, .slice (some ⟨b36, 0, none⟩) 1 1, .slice ba ((p.l.drop at_).map ItV.cells).length bc]) rfl rfl trivial U_sl_sl_api_Item sz_sl_api_Item z_sl_api_Item (by decide) rfl (by kernel_rfl) hw rfl (fun w b38 hw => ?_)
 refine x_call rfl rfl trivial cal_node_with rfl (ct_node_with (p := p) (pcs := [(.slice aa ((p.l.take at_).map ItV.cells).length ac, p.l.take at_), (.slice (some ⟨b36, 0, none⟩) 1 1, [x]), (.slice ba ((p.l.drop at_).map ItV.cells).length bc, p.l.drop at_)]) hw (hp.of sF) ((slV_blk (cs := [.slice aa ((p.l.take at_).map ItV.cells).length ac, .slice (some ⟨b36, 0, none⟩) 1 1, .slice ba ((p.l.drop at_).map ItV.cells).length bc])).head _) (by
 intro y hy
 simp only [List.mem_cons, List.not_mem_nil, or_false] at hy
 rcases hy with rfl | rfl | rfl
 ·exact hta.of sF
 ·exact ⟨((slT_blk (r := x.cells) rfl).head _).of sF, (fun z hz => by simp at hz; subst hz; exact hx.of sF), by simp⟩
 ·exact htb.of sF) (by simp) (by
 intro y hy
 simp only [List.mem_cons, List.not_mem_nil, or_false] at hy
 rcases hy with rfl | rfl | rfl
 ·simp only [List.length_take]; omega
 ·simp
 ·simp only [List.length_drop]; omega)) rfl (fun w v39 hv => ?_)
 obtain ⟨p', rfl, hpe, hps, hw⟩ := hv
 refine x_stN (cs := p'.cells) (l' := p'.cells) rfl trivial rfl rfl many_api_Page rfl (ones_pg (pgParts_ok hps pK) hw) hw pK (by simp [PgV.cells]) rfl rfl (fun w hw => ?_)
 refine z3 ?_
 exact end2 rfl rfl ⟨_, rfl, (Loads.blkA many_api_Page hw pK rfl)⟩ rfl (.inr ⟨by omega, p', rfl, by rw [hpe]; simp [PgV.pg], hps, (hw.b [blk b6 _ _, blk b5 _ _, blk b3 _ _, blk b36 _ _, blk b38 _ _]).tail.tail.tail.tail.tail⟩)
end
end Go.Proofs.YteifbglognfgdaaGreatDoor.X
