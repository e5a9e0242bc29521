/- The ground and the walks of this claim, part 2: XPage2 XPage3 XCmp XPage4 XPage5 XPage6 XPage7 XSpan XFork XSpan2 XSpan3 XRuns XRuns2 XRuns3 XRuns4 XRuns5 XPool XPool2 XPool3 XPool4 XVault XVault2. -/
import Derived.Test.YteifbglognfgdaaGreatDoorZ1
namespace Go.Proofs.YteifbglognfgdaaGreatDoor.X
set_option linter.unusedVariables false
set_option linter.unusedSimpArgs false
set_option maxRecDepth 20000
set_option maxHeartbeats 8000000
theorem flatten_at' {z : Nat} {rs : List (List Value)} {k : Nat} {r cur : List Value} (h : ∀ r ∈ rs, r.length = z) (hr : rs[k]? = some r) : ((rs.flatten ++ cur).drop (k * z)).take z = r := by
 have hk : k < rs.length := (List.getElem?_eq_some_iff.1 hr).1
 have hl := flatten_length h
 have h1 := flatten_at h hr
 have h2 : k * z + z ≤ rs.length * z := by rw [← Nat.succ_mul]; exact Nat.mul_le_mul_right _ hk
 rw [List.drop_append_of_le_length (by omega), List.take_append_of_le_length (by rw [List.length_drop]; omega)]
 exact h1
theorem flatten_set {z : Nat} : ∀ {rs : List (List Value)} {k j : Nat} {r cur : List Value} (v : Value), (∀ r ∈ rs, r.length = z) → rs[k]? = some r → j < z → (rs.flatten ++ cur).set (k * z + j) v = (rs.set k (r.set j v)).flatten ++ cur
 | x :: rs, 0, j, r, cur, v, h, hr, hj => by
  simp at hr; subst hr
  have h1 := h x (List.mem_cons_self ..)
  rw [Nat.zero_mul, Nat.zero_add, List.flatten_cons, List.append_assoc, List.set_append_left _ _ (by omega)]
  simp
 | x :: rs, k + 1, j, r, cur, v, h, hr, hj => by
  have h1 := h x (List.mem_cons_self ..)
  have ih := flatten_set (rs := rs) (k := k) (j := j) (cur := cur) v (fun y hy => h y (List.mem_cons_of_mem _ hy)) (by simpa using hr) hj
  rw [List.flatten_cons, List.append_assoc, List.set_append_right _ _ (by rw [h1, Nat.add_mul]; omega), h1, show (k + 1) * z + j - z = k * z + j by rw [Nat.add_mul]; omega, ih]
  simp
 | [], k, j, r, cur, v, _, hr, _ => by simp at hr
theorem cells_z (m : List ItV) : ∀ r ∈ m.map ItV.cells, r.length = 4 := fun r hr => by obtain ⟨x, -, rfl⟩ := List.mem_map.1 hr; rfl
theorem items_set0 {m : List ItV} {k : Nat} {x : ItV} {cur : List Value} (h : m[k]? = some x) (v : Value) : ((m.map ItV.cells).flatten ++ cur).set (0 + (k : Int).toNat * 4 + 0) v = ((m.set k ⟨x.it, v, x.vv⟩).map ItV.cells).flatten ++ cur := by
 rw [Int.toNat_natCast, Nat.zero_add, flatten_set (r := x.cells) v (cells_z m) (by rw [List.getElem?_map, h]; rfl) (by omega), List.map_set]; rfl
theorem items_set1 {m : List ItV} {k : Nat} {x : ItV} {cur : List Value} (h : m[k]? = some x) (v : Value) : ((m.map ItV.cells).flatten ++ cur).set (0 + (k : Int).toNat * 4 + 1) v = ((m.set k ⟨x.it, x.kv, v⟩).map ItV.cells).flatten ++ cur := by
 rw [Int.toNat_natCast, Nat.zero_add, flatten_set (r := x.cells) v (cells_z m) (by rw [List.getElem?_map, h]; rfl) (by omega), List.map_set]; rfl
theorem items_set2 {m : List ItV} {k : Nat} {x : ItV} {cur : List Value} (h : m[k]? = some x) (c : Int) : ((m.map ItV.cells).flatten ++ cur).set (0 + (k : Int).toNat * 4 + 2) (.int .i64 c) = ((m.set k ⟨⟨x.it.key, x.it.value, c, x.it.size⟩, x.kv, x.vv⟩).map ItV.cells).flatten ++ cur := by
 rw [Int.toNat_natCast, Nat.zero_add, flatten_set (r := x.cells) _ (cells_z m) (by rw [List.getElem?_map, h]; rfl) (by omega), List.map_set]; rfl
theorem cells_len (m : List ItV) (cur : List Value) : ((m.map ItV.cells).flatten ++ cur).length = m.length * 4 + cur.length := by rw [List.length_append, flatten_length (cells_z m), List.length_map]
theorem idx_lt {k n j : Nat} (hk : k < n) (hj : j < 4) (c : Nat) : Nat.blt (0 + (k : Int).toNat * 4 + j) (n * 4 + c) = true := by rw [Nat.blt_eq, Int.toNat_natCast]; omega
theorem ItsOk.ones {L : List Assn} {s : Value} {l : List ItV} (h : ItsOk L s l) {G : Gh} {w : World} (hw : Sat G L w) : Ones (l.map ItV.cells).flatten := fun u hu => by
 obtain ⟨r, hr, hu⟩ := List.mem_flatten.1 hu
 obtain ⟨x, hx, rfl⟩ := List.mem_map.1 hr
 exact ones_cells (h.it x hx) hw u hu
section
variable {G : Gh} {L R : List Assn} {w : World}
theorem ct_slices_Clone_api_Item_api_Item {v : Value} {l : List ItV} (hw : Sat G L w) (ka : ItsOk L v l) :
  Calls Tryz.prog 99 #[v] w (Ret fun r w' => Sat G (row 114 4 r l.length (l.map ItV.cells).flatten :: L) w') := by
 have hln := ka.len
 obtain ⟨a, cap, rfl, -, -⟩ := (ka.sl.at hw).form
 rw [List.length_map] at ka ⊢
 refine calls_of_x (args := [_]) Tryz.func99 rfl Tryz.ntmps99 rfl rfl ?_
 refine z8 ?_
 refine x_eqnilS rfl rfl trivial U_sl_api_Item rfl ?_
 refine xl_nil ?_
 refine x_cond rfl (fun h1 => ?_) (fun h1 => ?_)
 ·
  refine z5 ?_
  exact end1 rfl rfl rfl (by
 rcases ka.sl.at hw with ⟨x, hx, -, h⟩ | ⟨b, o, cap, h, -⟩
 ·have hl : l = [] := by simpa using h
  subst hl
  exact row_nil hw _ _
 ·injection h with h0; subst h0; cases h1)
 obtain ⟨x, rfl⟩ : ∃ x, a = some x := by cases a with | none => cases h1 | some x => exact ⟨x, rfl⟩
 refine z3 ?_
 refine x_bs0 rfl rfl trivial U_sl_api_Item sz_api_Item hw rfl (fun w b5 hw => ?_)
 have hw := row_full (z := 4) (m := 0) hw rfl (by simp only [maxLen]; omega)
 have hk2 := ka.of (L' := row 114 4 (.slice (some ⟨b5, 0, none⟩) 0 0) 0 [] :: L) sF
 have hrd : Rd w x (l.map ItV.cells).flatten := by
  rcases hk2.sl.at hw with ⟨-, -, -, h⟩ | ⟨b, o, cap, h, -, -, hR⟩
  ·rw [h]; exact Rd.nil
  injection h with h0; cases h0; exact hR
 refine z1 ?_
 refine x_app (m := 0) (k := l.length) (news := (l.map ItV.cells).flatten) rfl rfl trivial U_sl_api_Item sz_api_Item by_api_Item zs_api_Item rfl rfl hw pK hrd (by rw [flatten_length (cells_z l), List.length_map]) (hk2.ones hw) (by simp only [maxLen]; omega) (by omega) rfl (fun w v7 hw => ?_)
 refine z3 ?_
 exact end1 rfl rfl rfl (by rw [Nat.zero_add, List.nil_append] at hw; exact hw)
theorem ct_vault_copied {p : PgV} (hw : Sat G L w) (hp : p.Ok L) :
  Calls Tryz.prog 54 #[.agg p.cells.toArray] w (Ret fun r w' => ∃ p' : PgV, r = .agg p'.cells.toArray ∧ p'.pg = p.pg ∧ p'.Sm ∧ Sat G (pgO p' :: L) w') := by
 have hln := hp.its.len
 have hits := hp.its
 have hdat := hp.data
 simp only [PgV.cells]
 refine calls_of_x (args := [_]) Tryz.func54 rfl Tryz.ntmps54 rfl rfl ?_
 refine z2 ?_
 refine x_box rfl rfl trivial rfl rfl hw rfl (fun w b1 hw => ?_)
 refine x_alloc rfl rfl trivial z_api_Page hw rfl (fun w b2 hw => ?_)
 refine z2 ?_
 refine x_draw [0, 1, 3, 4, 2, 6, 5, 7, 8, 9] mixed (by kernel_rfl) ?_
 replace hw := hw.drawn (w.drawn + 1)
 refine z1 ?_
 refine lD one_sl_api_Item hw ?_
 refine z1 ?_
 refine lD one_sl_uint8 hw ?_
 refine x_callP rfl rfl trivial cal_slices_Clone_api_Item_api_Item rfl (ct_slices_Clone_api_Item_api_Item (l := p.l) hw (hits.of sF)) (fun w v7 hv q' hq => ?_) (fun w v7 hv => ?_)
 ·
  have hw := hv
  have hq := pend_mem (l := [4]) (by kernel_rfl) hq
  simp only [List.mem_cons, List.not_mem_nil, or_false] at hq
  subst hq
  exact chk_ld rfl rfl rfl (Loads.blk1 one_sl_uint8 hw pK rfl)
 have hw := hv
 refine z1 ?_
 refine x_call rfl rfl trivial cal_slices_Clone_byte_byte rfl (ct_slices_Clone_byte_byte (l := p.data) hw (hdat.of sF) hp.sd) (by kernel_rfl) (fun w v10 hv => ?_)
 have hw : Sat G (row 5 1 v10 p.data.length (bys p.data) :: _) w := hv
 obtain ⟨a7, c7, rfl⟩ := row_form (hw.pick (A := row 114 4 v7 _ _) pK)
 obtain ⟨a10, c10, rfl⟩ := row_form (hw.pick (A := row 5 1 v10 _ _) pK)
 refine x_st1 (l' := [_, _, _, _, _]) rfl trivial rfl rfl one_sl_api_Item rfl hw pK rfl rfl (by kernel_rfl) (fun w hw => ?_)
 refine z1 ?_
 refine x_st1 (l' := [_, _, _, _, _]) rfl trivial rfl rfl one_sl_uint8 rfl hw pK rfl rfl (by kernel_rfl) (fun w hw => ?_)
 refine z5 ?_
 refine lD one_sl_api_Item hw ?_
 refine z4 ?_
 have hw := Sat.both_in (M := ([] : List ItV).flatMap itParts) hw
 have hw := hw.b [row 114 4 _ _ _, both _, row 5 1 _ _ _, blk b1 _ _, blk b2 _ _]
 refine x_loop (fun m e w => ∃ (k : Nat) (dn : List ItV), k ≤ p.l.length ∧ m = p.l.length - k ∧ e = [(1, .pointer (some ⟨b1, 0, none⟩)), (2, .pointer (some ⟨b2, 0, none⟩)), (14, .slice a7 p.l.length c7), (15, .int .i64 p.l.length), (16, .int .i64 k)] ∧ dn.length = k ∧ dn.map ItV.it = (p.l.take k).map ItV.it ∧ Sat G (row 114 4 (.slice a7 p.l.length c7) p.l.length ((dn ++ p.l.drop k).map ItV.cells).flatten :: both (dn.flatMap itParts) :: row 5 1 (.slice a10 p.data.length c10) p.data.length (bys p.data) :: blk b1 [.int .i64 p.kind, .int .i64 p.level, .slice a7 p.l.length c7, .slice a10 p.data.length c10, .int .i64 p.next] 75 :: blk b2 [.int .i64 0, .int .i64 0, .slice none 0 0, .slice none 0 0, .int .i64 0] 75 :: L) w)
  (m := p.l.length) (e₀ := [(1, .pointer (some ⟨b1, 0, none⟩)), (2, .pointer (some ⟨b2, 0, none⟩)), (14, .slice a7 p.l.length c7), (15, .int .i64 p.l.length), (16, .int .i64 (0 : Nat))]) sB
  ⟨0, [], Nat.zero_le _, rfl, rfl, rfl, rfl, hw⟩ ?_
 rintro m e w ⟨k, dn, hk, rfl, rfl, hdl, hdi, hw⟩
 refine z5 ?_
 refine x_if rfl (fun h1 => ?_) (fun h1 => ?_)
 ·
  have hk' : k < p.l.length := by omega
  obtain ⟨x, hx⟩ : ∃ x, p.l[k]? = some x := ⟨_, List.getElem?_eq_getElem hk'⟩
  have hxo := hits.it x (List.mem_of_getElem? hx)
  have hxk := hxo.k
  have hxv := hxo.v
  have hdr : p.l.drop k = x :: p.l.drop (k + 1) := by
   rw [List.drop_eq_getElem_cons hk']; congr 1
   rw [List.getElem?_eq_getElem hk'] at hx; exact Option.some.inj hx
  obtain ⟨mm, hmm⟩ : ∃ mm, mm = dn ++ p.l.drop k := ⟨_, rfl⟩
  have hmx : mm[k]? = some x := by rw [hmm, hdr, List.getElem?_append_right (by omega), hdl, Nat.sub_self]; rfl
  have hml : mm.length = p.l.length := by rw [hmm, List.length_append, List.length_drop]; omega
  rw [← hmm] at hw
  obtain ⟨hfl, b7, cur, rfl, hcc, hcm, hcl, hw⟩ := row_some hw (by omega)
  refine z6 ?_
  refine x_idx rfl rfl trivial U_sl_api_Item sz_api_Item rfl rfl ⟨by omega, by omega⟩ ?_
  refine x_ld rfl rfl trivial rfl (Loads.blkN (cs := x.cells) many_api_Item hw pK (by rw [Int.toNat_natCast, Nat.zero_add]; exact flatten_at' (cells_z mm) (by rw [List.getElem?_map, hmx]; rfl)) rfl) ?_
  refine x_alloc rfl rfl trivial z_api_Item hw rfl (fun w b4 hw => ?_)
  refine z1 ?_
  refine x_stN (cs := x.cells) (l' := x.cells) rfl trivial rfl rfl many_api_Item rfl (ones_cells (hxo.of sF) hw) hw pK (by simp) rfl rfl (fun w hw => ?_)
  simp only [ItV.cells] at hw
  refine xl_nil ?_
  refine x_draw [0, 1, 2, 3, 4, 5, 6, 7, 9, 10, 8, 11, 12, 13, 14, 15, 16, 17] mixed (by kernel_rfl) ?_
  replace hw := hw.drawn (w.drawn + 1)
  refine z1 ?_
  refine lD one_sl_api_Item hw ?_
  refine z2 ?_
  refine lD one_sl_api_Item hw ?_
  refine z2 ?_
  refine lD one_sl_uint8 hw ?_
  refine z1 ?_
  refine lD one_sl_uint8 hw ?_
  refine x_callP rfl rfl trivial cal_slices_Clone_byte_byte rfl (ct_slices_Clone_byte_byte (l := x.it.key) hw (hxk.of sF) hxo.sk) (fun w v29 hv q' hq => ?_) (fun w v29 hv => ?_)
  ·
   have hw : Sat G (row 5 1 v29 x.it.key.length (bys x.it.key) :: _) w := hv
   have hq := pend_mem (l := [10, 4, 1]) (by kernel_rfl) hq
   simp only [List.mem_cons, List.not_mem_nil, or_false] at hq
   rcases hq with rfl | rfl | rfl
   ·exact chk_ld rfl rfl rfl (Loads.blk1 one_sl_uint8 hw pK rfl)
   ·exact chk_ld rfl rfl rfl (Loads.blk1 one_sl_api_Item hw pK rfl)
   exact chk_ld rfl rfl rfl (Loads.blk1 one_sl_api_Item hw pK rfl)
  have hw : Sat G (row 5 1 v29 x.it.key.length (bys x.it.key) :: _) w := hv
  refine x_callP rfl rfl trivial cal_slices_Clone_byte_byte rfl (ct_slices_Clone_byte_byte (l := x.it.value) hw (hxv.of sF) hxo.sv) (fun w v32 hv q' hq => ?_) (fun w v32 hv => ?_)
  ·
   have hw : Sat G (row 5 1 v32 x.it.value.length (bys x.it.value) :: _) w := hv
   have hq := pend_mem (l := [4, 1]) (by kernel_rfl) hq
   simp only [List.mem_cons, List.not_mem_nil, or_false] at hq
   rcases hq with rfl | rfl
   ·exact chk_ld rfl rfl rfl (Loads.blk1 one_sl_api_Item hw pK rfl)
   exact chk_ld rfl rfl rfl (Loads.blk1 one_sl_api_Item hw pK rfl)
  have hw : Sat G (row 5 1 v32 x.it.value.length (bys x.it.value) :: _) w := hv
  obtain ⟨a29, c29, rfl⟩ := row_form (hw.pick (A := row 5 1 v29 _ _) pK)
  obtain ⟨a32, c32, rfl⟩ := row_form (hw.pick (A := row 5 1 v32 _ _) pK)
  obtain ⟨x1, hx1⟩ : ∃ x1 : ItV, x1 = ⟨x.it, .slice a29 x.it.key.length c29, x.vv⟩ := ⟨_, rfl⟩
  obtain ⟨x2, hx2⟩ : ∃ x2 : ItV, x2 = ⟨x.it, .slice a29 x.it.key.length c29, .slice a32 x.it.value.length c32⟩ := ⟨_, rfl⟩
  have hm1 : (mm.set k x1)[k]? = some x1 := by rw [List.getElem?_set_self (by omega)]
  have hfl' : ((List.map ItV.cells mm).flatten ++ cur).length = p.l.length * 4 + cur.length := by rw [cells_len, hml]
  have hfl1 : ((List.map ItV.cells (mm.set k x1)).flatten ++ cur).length = p.l.length * 4 + cur.length := by rw [cells_len, List.length_set, hml]
  refine x_idx rfl rfl trivial U_sl_api_Item sz_api_Item rfl rfl ⟨by omega, by omega⟩ ?_
  refine x_fldk rfl rfl trivial fo_api_Item_0 rfl ?_
  refine x_st1P (l' := ((mm.set k x1).map ItV.cells).flatten ++ cur) rfl trivial rfl rfl one_sl_uint8 rfl hw pK (by rw [hfl']; exact idx_lt hk' (by omega) _) (by rw [hx1]; exact items_set0 hmx _) (fun w hw q' hq => ?_) (fun w hw => ?_)
  ·
   have hq := pend_mem (l := [4]) (by kernel_rfl) hq
   simp only [List.mem_cons, List.not_mem_nil, or_false] at hq
   subst hq
   exact chk_ld rfl rfl rfl (Loads.blk1 one_sl_api_Item hw pK rfl)
  refine x_idx rfl rfl trivial U_sl_api_Item sz_api_Item rfl rfl ⟨by omega, by omega⟩ ?_
  refine x_fldk rfl rfl trivial fo_api_Item_1 rfl ?_
  refine x_st1 (l' := ((mm.set k x2).map ItV.cells).flatten ++ cur) rfl trivial rfl rfl one_sl_uint8 rfl hw pK (by rw [hfl1]; exact idx_lt hk' (by omega) _) (by rw [hx2, items_set1 hm1, List.set_set, hx1]) (by kernel_rfl) (fun w hw => ?_)
  refine z5 ?_
  have hms : mm.set k x2 = (dn ++ [x2]) ++ p.l.drop (k + 1) := by
   rw [hmm, hdr, List.set_append_right _ _ (by omega), hdl, Nat.sub_self, List.set_cons_zero, List.append_assoc]; rfl
  rw [hms] at hw
  have hw := row_mk (z := 4) (m := p.l.length) (hw.pick (A := blk b7 _ _) pK) (by rw [flatten_length (cells_z _), List.length_map, ← hms, List.length_set, hml]) hcc hcm (by rw [List.length_append, flatten_length (cells_z _), List.length_map, ← hms, List.length_set, hml]; rw [hfl'] at hcl; exact hcl)
  have hw := hw.b [both _, row 5 1 (.slice a29 _ _) _ _, row 5 1 (.slice a32 _ _) _ _]
  have hw := hw.both_snoc.both_snoc
  have hdp : (dn ++ [x2]).flatMap itParts = (dn.flatMap itParts ++ [row 5 1 (.slice a29 x.it.key.length c29) x.it.key.length (bys x.it.key)]) ++ [row 5 1 (.slice a32 x.it.value.length c32) x.it.value.length (bys x.it.value)] := by
   rw [List.flatMap_append, hx2]; simp [itParts]
  rw [← hdp] at hw
  have hw := (hw.b [blk b4 _ _]).tail
  refine ⟨p.l.length - (k + 1), by omega, [(1, _), (2, _), (14, _), (15, _), (16, .int .i64 (k + 1 : Nat))], sB, k + 1, dn ++ [x2], by omega, rfl, rfl, by simp [hdl], ?_, hw.b [row 114 4 _ _ _, both _, row 5 1 (.slice a10 _ _) _ _, blk b1 _ _, blk b2 _ _]⟩
  rw [List.map_append, hdi, List.take_add_one, hx, List.map_append, hx2]; rfl
 have hkk : k = p.l.length := by omega
 subst hkk
 rw [List.drop_length, List.append_nil] at hw
 rw [List.take_length] at hdi
 refine z3 ?_
 refine x_ld rfl rfl trivial rfl (Loads.blkA many_api_Page hw pK (by simp)) ?_
 refine x_stN (cs := [.int .i64 p.kind, .int .i64 p.level, .slice a7 p.l.length c7, .slice a10 p.data.length c10, .int .i64 p.next]) (l' := [.int .i64 p.kind, .int .i64 p.level, .slice a7 p.l.length c7, .slice a10 p.data.length c10, .int .i64 p.next]) rfl trivial rfl rfl many_api_Page rfl (by intro u hu; simp at hu; rcases hu with rfl | rfl | rfl | rfl | rfl <;> rfl) hw pK (by simp) rfl rfl (fun w hw => ?_)
 refine z2 ?_
 exact end1 rfl rfl ⟨_, rfl, (Loads.blkA many_api_Page hw pK (by simp))⟩ (by
 refine ⟨⟨p.kind, p.level, dn, .slice a7 p.l.length c7, .slice a10 p.data.length c10, p.data, p.next⟩, rfl, by simp [PgV.pg, hdi], ⟨by simp only; omega, fun y hy => ?_, hp.sd⟩, ?_⟩
 ·have : y.it ∈ p.l.map ItV.it := hdi ▸ List.mem_map_of_mem hy
  obtain ⟨z, hz, hzy⟩ := List.mem_map.1 this
  rw [← hzy]; exact ⟨(hits.it z hz).sk, (hits.it z hz).sv⟩
 ·have hw := (hw.b [blk b1 _ _, blk b2 _ _]).tail.tail
  refine Sat.both_in (M := pgParts _) ?_
  simp only [pgParts, hdl]
  exact hw.b [row 114 4 _ _ _, both _, row 5 1 _ _ _])
end
section
variable {G : Gh} {L R : List Assn} {w : World}
theorem ct_ref00_CopyItem {x : ItV} (hw : Sat G L w) (hx : x.Ok L) :
  Calls Tryz.prog 91 #[.agg x.cells.toArray] w (Ret fun r w' => ∃ x' : ItV, r = .agg x'.cells.toArray ∧ x'.it = x.it ∧ Ones x'.cells ∧ Sat G (both (itParts x') :: L) w') := by
 have hxk := hx.k
 have hxv := hx.v
 have hsk := hx.sk
 have hsv := hx.sv
 simp only [ItV.cells]
 refine calls_of_x (args := [_]) Tryz.func91 rfl Tryz.ntmps91 rfl rfl ?_
 refine z2 ?_
 refine x_box rfl rfl trivial rfl rfl hw rfl (fun w b1 hw => ?_)
 refine x_alloc rfl rfl trivial z_api_Item hw rfl (fun w b2 hw => ?_)
 refine z2 ?_
 refine x_draw [0, 1, 3, 4, 6, 7, 8, 9, 2, 5, 10, 11] mixed (by kernel_rfl) ?_
 replace hw := hw.drawn (w.drawn + 1)
 refine z1 ?_
 refine lD one_sl_uint8 hw ?_
 refine z1 ?_
 refine lD one_sl_uint8 hw ?_
 refine z1 ?_
 refine lD one_int hw ?_
 refine z1 ?_
 refine lD one_int hw ?_
 refine x_callP rfl rfl trivial cal_ref00_CopyBytes rfl (ct_ref00_CopyBytes (l := x.it.key) hw (hxk.of sF) hsk) (fun w v5 hv q' hq => ?_) (fun w v5 hv => ?_)
 ·
  have hw : Sat G (row 5 1 v5 x.it.key.length (bys x.it.key) :: _) _ := hv
  have hq := pend_mem (l := [9, 7, 4]) (by kernel_rfl) hq
  simp only [List.mem_cons, List.not_mem_nil, or_false] at hq
  rcases hq with rfl | rfl | rfl
  ·exact chk_ld rfl rfl rfl (Loads.blk1 one_int hw pK rfl)
  ·exact chk_ld rfl rfl rfl (Loads.blk1 one_int hw pK rfl)
  exact chk_ld rfl rfl rfl (Loads.blk1 one_sl_uint8 hw pK rfl)
 have hw : Sat G (row 5 1 v5 x.it.key.length (bys x.it.key) :: _) _ := hv
 refine x_callP rfl rfl trivial cal_ref00_CopyBytes rfl (ct_ref00_CopyBytes (l := x.it.value) hw (hxv.of sF) hsv) (fun w v8 hv q' hq => ?_) (fun w v8 hv => ?_)
 ·
  have hw : Sat G (row 5 1 v8 x.it.value.length (bys x.it.value) :: _) _ := hv
  have hq := pend_mem (l := [9, 7]) (by kernel_rfl) hq
  simp only [List.mem_cons, List.not_mem_nil, or_false] at hq
  rcases hq with rfl | rfl
  ·exact chk_ld rfl rfl rfl (Loads.blk1 one_int hw pK rfl)
  exact chk_ld rfl rfl rfl (Loads.blk1 one_int hw pK rfl)
 have hw : Sat G (row 5 1 v8 x.it.value.length (bys x.it.value) :: _) _ := hv
 obtain ⟨a5, c5, rfl⟩ := row_form (hw.pick (A := row 5 1 v5 _ _) pK)
 obtain ⟨a8, c8, rfl⟩ := row_form (hw.pick (A := row 5 1 v8 _ _) pK)
 have hones : Ones [.slice a5 x.it.key.length c5, .slice a8 x.it.value.length c8, .int .i64 x.it.child, .int .i64 x.it.size] := by intro u hu; simp at hu; rcases hu with rfl | rfl | rfl | rfl <;> rfl
 refine x_build (v := .agg #[.slice a5 x.it.key.length c5, .slice a8 x.it.value.length c8, .int .i64 x.it.child, .int .i64 x.it.size]) rfl rfl trivial rfl (fun w => by kernel_rfl) ?_
 refine x_stN (cs := [.slice a5 x.it.key.length c5, .slice a8 x.it.value.length c8, .int .i64 x.it.child, .int .i64 x.it.size]) (l' := [.slice a5 x.it.key.length c5, .slice a8 x.it.value.length c8, .int .i64 x.it.child, .int .i64 x.it.size]) rfl trivial rfl rfl many_api_Item rfl hones hw pK (by simp) rfl (by kernel_rfl) (fun w hw => ?_)
 refine z2 ?_
 exact end1 rfl rfl ⟨_, rfl, (Loads.blkA many_api_Item hw pK (by simp))⟩ (by
 refine ⟨⟨x.it, .slice a5 x.it.key.length c5, .slice a8 x.it.value.length c8⟩, rfl, rfl, hones, ?_⟩
 exact Sat.both_in (M := itParts _) ((hw.b [blk b1 _ _, blk b2 _ _, row 5 1 (.slice a5 _ _) _ _, row 5 1 (.slice a8 _ _) _ _]).tail.tail))
theorem ct_ref00_CopyItems {v : Value} {l : List ItV} (hw : Sat G L w) (ka : ItsOk L v l) :
  Calls Tryz.prog 49 #[v] w (Ret fun r w' => ∃ l' : List ItV, l'.map ItV.it = l.map ItV.it ∧ Sat G (row 114 4 r l.length (l'.map ItV.cells).flatten :: both (l'.flatMap itParts) :: L) w') := by
 have hln := ka.len
 obtain ⟨a, cap, rfl, -, -⟩ := (ka.sl.at hw).form
 rw [List.length_map] at ka ⊢
 have hsl := ka.sl
 refine calls_of_x (args := [_]) Tryz.func49 rfl Tryz.ntmps49 rfl rfl ?_
 refine z14 ?_
 have hw := row_nil (Sat.both_in (M := ([] : List ItV).flatMap itParts) hw) 114 4
 refine x_loop (fun m e w => ∃ (k : Nat) (dn : List ItV) (u : Value), k ≤ l.length ∧ m = l.length - k ∧ e = [(0, .slice a l.length cap), (3, u), (4, .int .i64 k)] ∧ dn.length = k ∧ dn.map ItV.it = (l.take k).map ItV.it ∧ Sat G (row 114 4 u k (dn.map ItV.cells).flatten :: both (dn.flatMap itParts) :: L) w)
  (m := l.length) (e₀ := [(0, .slice a l.length cap), (3, .slice none 0 0), (4, .int .i64 (0 : Nat))]) sB
  ⟨0, [], _, Nat.zero_le _, rfl, rfl, rfl, rfl, hw⟩ ?_
 rintro m e w ⟨k, dn, u, hk, rfl, rfl, hdl, hdi, hw⟩
 refine z8 ?_
 refine x_if rfl (fun h1 => ?_) (fun h1 => ?_)
 ·
  have hk' : k < l.length := by omega
  obtain ⟨x, hx⟩ : ∃ x, l[k]? = some x := ⟨_, List.getElem?_eq_getElem hk'⟩
  have hxo := ka.it x (List.mem_of_getElem? hx)
  have hxr : (l.map ItV.cells)[k]? = some x.cells := by rw [List.getElem?_map, hx]; rfl
  obtain ⟨b, o, rfl⟩ := ((hsl.of sF).at hw).nn (by rw [List.length_map]; omega)
  refine z7 ?_
  refine x_idx rfl rfl trivial U_sl_api_Item sz_api_Item rfl rfl ⟨by omega, by omega⟩ ?_
  refine x_ld rfl rfl trivial rfl (Loads.many many_api_Item rfl (by rw [Int.toNat_natCast]; exact ((hsl.of sF).at hw).at hxr)) ?_
  refine x_call rfl rfl trivial cal_ref00_CopyItem rfl (ct_ref00_CopyItem (x := x) hw (hxo.of sF)) rfl (fun w v16 hv => ?_)
  obtain ⟨x', rfl, hxi, hones, hw⟩ := hv
  refine x_bs1 (cs := x'.cells) rfl rfl trivial U_sl_api_Item sz_api_Item zs_api_Item (by decide) rfl rfl rfl hw rfl (fun w b17 hw => ?_)
  refine x_app (m := k) (k := 1) (news := x'.cells) rfl rfl trivial U_sl_api_Item sz_api_Item by_api_Item zs_api_Item rfl rfl hw pK (Rd.blk0 hw pK) rfl hones (by simp only [maxLen]; omega) (by omega) rfl (fun w v18 hw => ?_)
  refine z7 ?_
  have hw := (hw.b [blk b17 _ _, both (dn.flatMap itParts), both (itParts x'), row 114 4 v18 _ _]).tail.both_app
  have e1 : dn.flatMap itParts ++ itParts x' = (dn ++ [x']).flatMap itParts := by simp
  have e2 : (dn.map ItV.cells).flatten ++ x'.cells = ((dn ++ [x']).map ItV.cells).flatten := by simp
  rw [e1, e2] at hw
  refine ⟨l.length - (k + 1), by omega, [(0, _), (3, _), (4, .int .i64 (k + 1 : Nat))], sB, k + 1, dn ++ [x'], _, by omega, rfl, rfl, by simp [hdl], ?_, hw.pick (A := row 114 4 v18 _ _) pK⟩
  rw [List.map_append, hdi, List.take_add_one, hx, List.map_append]; simp [hxi]
 refine z7 ?_
 exact end1 rfl rfl rfl (by
 have hkk : k = l.length := by omega
 subst hkk
 rw [List.take_length] at hdi
 exact ⟨dn, hdi, hw⟩)
theorem ct_ref00_CopyPage {p : PgV} (hw : Sat G L w) (hp : p.Ok L) :
  Calls Tryz.prog 20 #[.agg p.cells.toArray] w (Ret fun r w' => ∃ p' : PgV, r = .agg p'.cells.toArray ∧ p'.pg = p.pg ∧ p'.Sm ∧ Sat G (pgO p' :: L) w') := by
 have hln := hp.its.len
 have hits := hp.its
 have hdat := hp.data
 simp only [PgV.cells]
 refine calls_of_x (args := [_]) Tryz.func20 rfl Tryz.ntmps20 rfl rfl ?_
 refine z2 ?_
 refine x_box rfl rfl trivial rfl rfl hw rfl (fun w b1 hw => ?_)
 refine x_alloc rfl rfl trivial z_api_Page hw rfl (fun w b2 hw => ?_)
 refine z2 ?_
 refine x_draw [0, 1, 2, 3, 4, 5, 7, 8, 10, 11, 6, 9, 12, 13] mixed (by kernel_rfl) ?_
 replace hw := hw.drawn (w.drawn + 1)
 refine z1 ?_
 refine lD one_int hw ?_
 refine z1 ?_
 refine lD one_int hw ?_
 refine z1 ?_
 refine lD one_sl_api_Item hw ?_
 refine z1 ?_
 refine lD one_sl_uint8 hw ?_
 refine z1 ?_
 refine lD one_int hw ?_
 refine x_callP rfl rfl trivial cal_ref00_CopyItems rfl (ct_ref00_CopyItems (l := p.l) hw (hits.of sF)) (fun w v9 hv q' hq => ?_) (fun w v9 hv => ?_)
 ·
  obtain ⟨l', hl', hw⟩ := hv
  have hq := pend_mem (l := [11, 8, 3, 1]) (by kernel_rfl) hq
  simp only [List.mem_cons, List.not_mem_nil, or_false] at hq
  rcases hq with rfl | rfl | rfl | rfl
  ·exact chk_ld rfl rfl rfl (Loads.blk1 one_int hw pK rfl)
  ·exact chk_ld rfl rfl rfl (Loads.blk1 one_sl_uint8 hw pK rfl)
  ·exact chk_ld rfl rfl rfl (Loads.blk1 one_int hw pK rfl)
  exact chk_ld rfl rfl rfl (Loads.blk1 one_int hw pK rfl)
 obtain ⟨l', hl', hw⟩ := hv
 have hll : l'.length = p.l.length := by rw [← List.length_map (f := ItV.it), hl', List.length_map]
 refine x_callP rfl rfl trivial cal_ref00_CopyBytes rfl (ct_ref00_CopyBytes (l := p.data) hw (hdat.of sF) hp.sd) (fun w v12 hv q' hq => ?_) (fun w v12 hv => ?_)
 ·
  have hw : Sat G (row 5 1 v12 p.data.length (bys p.data) :: _) _ := hv
  have hq := pend_mem (l := [11, 3, 1]) (by kernel_rfl) hq
  simp only [List.mem_cons, List.not_mem_nil, or_false] at hq
  rcases hq with rfl | rfl | rfl
  ·exact chk_ld rfl rfl rfl (Loads.blk1 one_int hw pK rfl)
  ·exact chk_ld rfl rfl rfl (Loads.blk1 one_int hw pK rfl)
  exact chk_ld rfl rfl rfl (Loads.blk1 one_int hw pK rfl)
 have hw : Sat G (row 5 1 v12 p.data.length (bys p.data) :: _) _ := hv
 obtain ⟨a9, c9, rfl⟩ := row_form (hw.pick (A := row 114 4 v9 _ _) pK)
 obtain ⟨a12, c12, rfl⟩ := row_form (hw.pick (A := row 5 1 v12 _ _) pK)
 refine x_build (v := .agg #[.int .i64 p.kind, .int .i64 p.level, .slice a9 p.l.length c9, .slice a12 p.data.length c12, .int .i64 p.next]) rfl rfl trivial rfl (fun w => by kernel_rfl) ?_
 refine x_stN (cs := [.int .i64 p.kind, .int .i64 p.level, .slice a9 p.l.length c9, .slice a12 p.data.length c12, .int .i64 p.next]) (l' := [.int .i64 p.kind, .int .i64 p.level, .slice a9 p.l.length c9, .slice a12 p.data.length c12, .int .i64 p.next]) rfl trivial rfl rfl many_api_Page rfl (by intro u hu; simp at hu; rcases hu with rfl | rfl | rfl | rfl | rfl <;> rfl) hw pK (by simp) rfl (by kernel_rfl) (fun w hw => ?_)
 refine z2 ?_
 exact end1 rfl rfl ⟨_, rfl, (Loads.blkA many_api_Page hw pK (by simp))⟩ (by
 refine ⟨⟨p.kind, p.level, l', .slice a9 p.l.length c9, .slice a12 p.data.length c12, p.data, p.next⟩, rfl, by simp [PgV.pg, hl'], ⟨by simp only; omega, fun y hy => ?_, hp.sd⟩, ?_⟩
 ·have : y.it ∈ p.l.map ItV.it := hl' ▸ List.mem_map_of_mem hy
  obtain ⟨z, hz, hzy⟩ := List.mem_map.1 this
  rw [← hzy]; exact ⟨(hits.it z hz).sk, (hits.it z hz).sv⟩
 ·have hw := (hw.b [blk b1 _ _, blk b2 _ _]).tail.tail
  refine Sat.both_in (M := pgParts _) ?_
  simp only [pgParts, hll]
  exact hw.b [row 114 4 _ _ _, both _, row 5 1 _ _ _])
theorem ct_bytes_Clone {v : Value} {l : Bys} (hw : Sat G L w) (ka : Knows L (SlB v l)) (hll : Small l) :
  Calls Tryz.prog 82 #[v] w (Ret fun r w' => Sat G (row 5 1 r l.length (bys l) :: L) w') := by
 unfold Small at hll
 obtain ⟨a, cap, rfl⟩ := (ka.at hw).form
 refine calls_of_x (args := [_]) Tryz.func82 rfl Tryz.ntmps82 rfl rfl ?_
 refine z8 ?_
 refine x_eqnilS rfl rfl trivial U_sl_uint8 rfl ?_
 refine xl_nil ?_
 refine x_cond rfl (fun h1 => ?_) (fun h1 => ?_)
 ·
  refine z5 ?_
  exact end1 rfl rfl rfl (by
 rcases ka.at hw with ⟨-, rfl⟩ | ⟨b, o, cap, h, -⟩
 ·exact row_nil hw _ _
 ·cases h; cases h1)
 obtain ⟨x, rfl⟩ : ∃ x, a = some x := by cases a with | none => cases h1 | some x => exact ⟨x, rfl⟩
 refine z3 ?_
 refine x_bs0 rfl rfl trivial U_sl_uint8 sz_uint8 hw rfl (fun w b5 hw => ?_)
 have hw := row_full (z := 1) (m := 0) hw rfl (by simp only [maxLen]; omega)
 have hrd : Rd w x (bys l) := by
  rcases (ka.cons (row 5 1 (.slice (some ⟨b5, 0, none⟩) 0 0) 0 [])).at hw with ⟨-, rfl⟩ | ⟨b, o, cap, h, -, hR⟩
  ·exact Rd.nil
  cases h; exact hR
 refine z1 ?_
 refine x_app (m := 0) (k := l.length) (news := bys l) rfl rfl trivial U_sl_uint8 sz_uint8 by_uint8 zs_uint8 rfl rfl hw pK hrd (by rw [bys_length]; omega) (ones_bys _) (by simp only [maxLen]; omega) (by omega) rfl (fun w v7 hw => ?_)
 refine z3 ?_
 exact end1 rfl rfl rfl (by rw [Nat.zero_add, List.nil_append] at hw; exact hw)
end
theorem ba_size (l : Bys) : (⟨l.toArray⟩ : ByteArray).size = l.length := rfl
theorem ba_get (l : Bys) (i : Nat) : (⟨l.toArray⟩ : ByteArray)[i]! = l.getD i 0 := by
 by_cases h : i < l.length
 ·rw [getElem!_pos _ i (show i < (⟨l.toArray⟩ : ByteArray).size from h)]
  show l.toArray[i] = _
  simp [h]
 rw [getElem!_neg _ i (show ¬ i < (⟨l.toArray⟩ : ByteArray).size from h)]
 simp [List.getElem?_eq_none (Nat.le_of_not_lt h)]
 rfl
theorem cmp_eq : ∀ (a b : Bys), Extern.BytealgCompare.cmp ⟨a.toArray⟩ ⟨b.toArray⟩ = cmpB a b := by
 intro a b
 unfold Extern.BytealgCompare.cmp
 simp only [ba_size, ba_get]
 induction a generalizing b with
 | nil => cases b <;> simp [cmpB]
 | cons x a ih =>
  cases b with
  | nil => simp [cmpB]
  | cons y b =>
   have ih := ih b
   simp only [List.length_cons]
   rw [show min (a.length + 1) (b.length + 1) = min a.length b.length + 1 by omega, List.range_succ_eq_map, List.find?_cons]
   by_cases hxy : x = y
   ·subst hxy
    have e1 : cmpB (x :: a) (x :: b) = cmpB a b := by simp [cmpB]
    rw [e1, ← ih]
    simp only [List.getD_cons_zero, bne_self_eq_false, List.find?_map, Function.comp_def, List.getD_cons_succ, Nat.succ_eq_add_one]
    generalize (List.range (min a.length b.length)).find? (fun i => a.getD i 0 != b.getD i 0) = r
    cases r with
    | none => simp
    | some i => simp
   have hne : ((x :: a).getD 0 0 != (y :: b).getD 0 0) = true := by simpa using hxy
   simp only [hne, cmpB]
   simp only [List.getD_cons_zero]
   have hn : x.toNat ≠ y.toNat := fun h => hxy (UInt8.toNat_inj.1 h)
   by_cases hlt : x < y
   ·rw [if_pos hlt, if_pos (UInt8.lt_iff_toNat_lt.1 hlt)]
   have hlt' : ¬ x.toNat < y.toNat := fun h => hlt (UInt8.lt_iff_toNat_lt.2 h)
   rw [if_neg hlt, if_neg hlt', if_pos (by omega)]
theorem run_loadBytes {P : Program} {w : World} : ∀ (l : Bys) (b o : Nat) (acc : ByteArray), Rd w ⟨b, o, none⟩ (bys l) → (Extern.Bytes.loadBytes ⟨b, o, none⟩ l.length acc).run P w = .ok ⟨acc.data ++ l.toArray⟩ w
 | [], b, o, acc, _ => by simp [Extern.Bytes.loadBytes]
 | u :: l, b, o, acc, h => by
  have h0 : w.cell? ⟨b, o, none⟩ = some (bv u) := by have := h 0 (bv u) rfl; rwa [add_lit] at this
  have h1 : Rd w ⟨b, o + 1, none⟩ (bys l) := by have := h.drop 1; simpa [bys] using this
  have hl : (Go.load ⟨b, o, none⟩).run P w = .ok (bv u) w := by simp [Go.load, Sem.run, h0]
  simp only [List.length_cons, Extern.Bytes.loadBytes, Sem.run_bind, hl, Result.andThen_ok, bv]
  rw [add_lit, run_loadBytes l b (o + 1) _ h1]
  simp [ByteArray.push]
theorem run_bytesOf {P : Program} {w : World} {v : Value} {l : Bys} (h : SlB v l w) : (Extern.Bytes.bytesOf v).run P w = .ok ⟨l.toArray⟩ w := by
 rcases h with ⟨⟨a, rfl⟩, rfl⟩ | ⟨b, o, cap, rfl, -, h⟩
 ·cases a with
  | none => rfl
  | some a => rfl
 simp only [Extern.Bytes.bytesOf]
 rw [run_loadBytes l _ _ _ h]
 congr 1
 show (⟨(#[] : Array UInt8) ++ l.toArray⟩ : ByteArray) = _
 rw [Array.empty_append]
section
variable {P : Program} {n : Nat} {ops : Array Oper} {dr : Bool} {done r : List Nat} {K : Env → World → Prop} {e : Env} {w : World} {i d : Nat} {t : TypeId} {p : String} {af : Array Edge} {g : Option (Nat × Bool)}
theorem xl_andM {l l1 l2 : List Nat} (hl : l = l1 ++ l2) {d : Nat} (q : Prop) [Decidable q] (M : World → Prop) (hf : freshE (dsts ops l1) e = true) (h1 : XL P n ops dr done l1 (fun e' w' => M w' ∧ get e' d = some (.bool (decide q))) e w)
  (h2 : ∀ w, M w → XL P n ops dr (l1.reverse ++ done) l2 K ((d, .bool (decide q)) :: e) w) : XL P n ops dr done l K e w := by
 subst hl
 intro a ha
 have h := h1 a ha
 have key : ∀ (a' : Act) (w' : World), (∃ e', Agree n e' a' ∧ M w' ∧ get e' d = some (.bool (decide q))) → Kp (dsts ops l1) a a' → Agree n ((d, .bool (decide q)) :: e) a' ∧ M w' := fun a' w' ⟨e', ha', hw, hg⟩ hk => by
  refine ⟨⟨by rw [marks_cons (get_mk hg), hk.defers]; exact ha.defers, hk.size.trans ha.size, ha.small, fun t v hv => ?_⟩, hw⟩
  rcases get_cons hv with ⟨rfl, rfl⟩ | ⟨_, hv⟩
  ·exact ha'.get _ _ hg
  rw [hk.same t (freshE_get hf hv)]; exact ha.get t v hv
 have hS : ∀ i ∈ l1, ∀ o, ops[i]? = some o → ∀ t, o.dst = some t → (dsts ops l1).contains t = true := fun i hi o ho => dsts_mem hi ho
 cases dr
 ·exact SN_app l1 l2 a w (SN_mono (fun a' w' hx => by obtain ⟨h3, h4⟩ := key a' w' hx.1 hx.2; exact h2 w' h4 a' h3) _ _ _ (SN_keep _ _ _ hS h))
 exact SL_app l1 l2 done a w (SL_mono (fun a' w' hx => by obtain ⟨h3, h4⟩ := key a' w' hx.1 hx.2; exact h2 w' h4 a' h3) _ _ _ _ (SL_keep _ _ _ _ hS h))
theorem x_cmp {f : FuncId} {x y : Operand} {ts : Array TypeId} {va vb : Value} {la lb : Bys} (ho : ops[i]? = some ⟨some d, .call ⟨.value (.func f), #[x, y], ts⟩, t, p, af, g⟩) (hd : Nat.blt d n = true) (hg : Gd ops e g)
  (h1 : (P.funcs[f]?).map (fun fn => fn.body.isNone) = some true) (h2 : (P.funcs[f]?).bind (fun fn => Extern.find fn) = some Extern.BytealgCompare.compare) (h3 : (P.funcs[f]?).map (fun fn => (Extern.findNext fn).isNone) = some true) (h4 : (P.funcs[f]?).map (fun fn => (fn.name == "runtime.NumGoroutine")) = some false)
  (hx : ev e x = some va) (hy : ev e y = some vb) (ha : SlB va la w) (hb : SlB vb lb w) (hpd : pend P ops dr done i = [])
  (h : XL P n ops dr (i :: done) r K ((d, .int .i64 (cmpB la lb)) :: e) w) : XL P n ops dr done (i :: r) K e w := by
 refine xl_eff ho (by simpa [dstOk] using hd) hg (ρ := rh e) (by
  intro q hZ; simp [Op.operands, Call.operands] at hZ
  rcases hZ with rfl | hZ
  ·rfl
  ·exact oh2 hx hy hZ) rfl (v := .int .i64 (cmpB la lb)) (w' := w) ?_ (noPend hpd) h
 cases hf : P.funcs[f]? with
 | none => simp [hf] at h1
 | some fn =>
  have h1' : fn.body.isNone = true := by simpa [hf] using h1
  have h2' : Extern.find fn = some Extern.BytealgCompare.compare := by simpa [hf] using h2
  have h3' : Extern.findNext fn = none := by simpa [hf] using h3
  have h4' : (fn.name == "runtime.NumGoroutine") = false := by simpa [hf] using h4
  have hr : (Extern.BytealgCompare.compare #[va, vb]).run P w = .ok (.int .i64 (cmpB la lb)) w := by
   have e1 : Extern.BytealgCompare.compare #[va, vb] = (do let a ← Extern.Bytes.bytesOf va; let b ← Extern.Bytes.bytesOf vb; pure (goInt (Extern.BytealgCompare.cmp a b))) := rfl
   rw [e1]
   simp only [Sem.run_bind, run_bytesOf ha, run_bytesOf hb, Result.andThen_ok, Sem.run_pure, cmp_eq, goInt]
  simp only [execOp, resolve, show rh e (.func f) = .func (.func f) #[] #[] from rfl, Deferred.ofValue, invoke, callFunc, Sem.run_bind, Sem.run_pure, Result.andThen_ok, program, Sem.run, hf, h1', h2', h3', h4']
  simp [rh_of hx, rh_of hy, hr, Sem.run_bind, mark, Sem.run]
end
section
variable {G : Gh} {L R : List Assn} {w : World}
theorem ct_bytes_Compare {v v' : Value} {l l' : Bys} (hw : Sat G L w) (ka : Knows L (SlB v l)) (kb : Knows L (SlB v' l')) :
  Calls Tryz.prog 97 #[v, v'] w (Ret fun r w' => r = .int .i64 (cmpB l l') ∧ Sat G L w') := by
 refine calls_of_x (args := [_, _]) Tryz.func97 rfl Tryz.ntmps97 rfl rfl ?_
 refine z8 ?_
 refine x_cmp rfl rfl trivial (by kernel_rfl) (by kernel_rfl) (by kernel_rfl) (by kernel_rfl) rfl rfl (ka.at hw) (kb.at hw) rfl ?_
 refine z3 ?_
 exact end1 rfl rfl rfl ⟨rfl, hw⟩
end
def isPageP (n : Int) : Prop := 1 ≤ n ∧ n ≤ 65536
instance (n : Int) : Decidable (isPageP n) := by unfold isPageP; infer_instance
def formN (kind level next : Int) (n d : Nat) : Prop :=
 (kind = 1 → d = 0 ∧ next = 0 ∧ level = 0 ∧ 1 ≤ n ∧ n ≤ 8) ∧ (kind = 2 → d = 0 ∧ next = 0 ∧ 1 ≤ level ∧ level < 12 ∧ 2 ≤ n ∧ n ≤ 8) ∧ (kind ≠ 1 → kind ≠ 2 → level = 0 ∧ n = 0 ∧ 1 ≤ d ∧ d ≤ 480)
instance (kind level next : Int) (n d : Nat) : Decidable (formN kind level next n d) := by unfold formN; infer_instance
def fst (a b : Int) : Int := if a = 0 then b else a
theorem fst_assoc (a b c : Int) : fst (fst a b) c = fst a (fst b c) := by unfold fst; repeat' split <;> simp_all
theorem fst_zero (a : Int) : fst a 0 = a := by unfold fst; split <;> simp_all
theorem zero_fst (a : Int) : fst 0 a = a := rfl
def mst (q : Prop) [Decidable q] (e : Int) : Int := if q then 0 else e
def keyErr (kind : Int) (i : Nat) (x : It) : Int := if kind = 2 ∧ i = 0 then mst (x.key.length = 0) 7 else mst (1 ≤ x.key.length ∧ x.key.length ≤ 24) 7
def ordErr (kind : Int) (i : Nat) (above : Bys) (x : It) : Int := if kind = 2 ∧ i = 0 then 0 else mst (i = 0 ∨ 0 < cmpB x.key above) 11
def valErr (kind : Int) (x : It) : Int := if kind = 2 then mst (x.value.length = 0 ∧ x.size = 0) 8 else fst (mst (0 ≤ x.size ∧ x.size ≤ 3840) 8) (if x.size ≤ 32 then mst ((x.value.length : Int) = x.size) 8 else mst (x.value.length = 0) 8)
def chlErr (kind : Int) (x : It) : Int := if kind = 2 then mst (isPageP x.child) 15 else if x.size ≤ 32 then mst (x.child = 0) 15 else mst (isPageP x.child) 15
def itErr (kind : Int) (i : Nat) (above : Bys) (x : It) : Int := fst (keyErr kind i x) (fst (ordErr kind i above x) (fst (valErr kind x) (chlErr kind x)))
def itsErr (kind : Int) : Nat → Bys → List It → Int
 | _, _, [] => 0
 | i, above, x :: r => fst (itErr kind i above x) (itsErr kind (i + 1) x.key r)
def checkP (p : Pg) : Int :=
 fst (fst (mst (1 ≤ p.kind ∧ p.kind ≤ 3) 22) (mst (formN p.kind p.level p.next p.items.length p.data.length) 5))
  (fst (itsErr p.kind 0 [] p.items) (mst (p.next = 0 ∨ isPageP p.next) 15))
def kidsP (p : Pg) : List Int :=
 (p.items.filterMap fun x => if p.kind = 2 ∨ (p.kind = 1 ∧ x.child ≠ 0) then some x.child else none) ++ (if p.kind = 3 ∧ p.next ≠ 0 then [p.next] else [])
def lastKey (above : Bys) (l : List It) : Bys := (l.getLast?.map It.key).getD above
theorem itsErr_snoc (kind : Int) (x : It) : ∀ (l : List It) (i : Nat) (above : Bys), itsErr kind i above (l ++ [x]) = fst (itsErr kind i above l) (itErr kind (i + l.length) (lastKey above l) x)
 | [], i, above => by simp [itsErr, lastKey, fst_zero, zero_fst]
 | y :: l, i, above => by
  simp only [List.cons_append, itsErr, itsErr_snoc kind x l, fst_assoc, List.length_cons]
  rw [show i + 1 + l.length = i + (l.length + 1) by omega]
  congr 3
  unfold lastKey
  cases l <;> simp [List.getLast?_cons]
def ints (l : List Int) : List Value := l.map (.int .i64 ·)
theorem ints_length (l : List Int) : (ints l).length = l.length := by simp [ints]
section
variable {G : Gh} {L R : List Assn} {w : World}
theorem ct_page_isPage {n : Int} (hw : Sat G L w) : Calls Tryz.prog 98 #[.int .i64 n] w (Ret fun r w' => r = .bool (decide (isPageP n)) ∧ Sat G L w') := by
 refine calls_of_x (args := [_]) Tryz.func98 rfl Tryz.ntmps98 rfl rfl ?_
 refine z9 ?_
 refine xl_split (d := 5) rfl (fun h1 => ?_) (fun h1 => ?_)
 ·
  refine z6 ?_
  exact end1 rfl rfl rfl ⟨by unfold isPageP; congr 1; exact decide_eq_decide.2 (by omega), hw⟩
 refine z6 ?_
 exact end1 rfl rfl rfl ⟨by unfold isPageP; congr 1; exact (decide_eq_false (by omega)).symm, hw⟩
theorem ct_ref07_IsPage {n : Int} (hw : Sat G L w) : Calls Tryz.prog 118 #[.int .i64 n] w (Ret fun r w' => r = .bool (decide (isPageP n)) ∧ Sat G L w') := by
 refine calls_of_x (args := [_]) Tryz.func118 rfl Tryz.ntmps118 rfl rfl ?_
 refine z9 ?_
 refine xl_split (d := 5) rfl (fun h1 => ?_) (fun h1 => ?_)
 ·
  refine z6 ?_
  exact end1 rfl rfl rfl ⟨by unfold isPageP; congr 1; exact decide_eq_decide.2 (by omega), hw⟩
 refine z6 ?_
 exact end1 rfl rfl rfl ⟨by unfold isPageP; congr 1; exact (decide_eq_false (by omega)).symm, hw⟩
theorem ct_page_form {p : PgV} (hw : Sat G L w) (hp : p.Ok L) :
  Calls Tryz.prog 96 #[.agg p.cells.toArray] w (Ret fun r w' => r = .bool (decide (formN p.kind p.level p.next p.l.length p.data.length)) ∧ Sat G L w') := by
 obtain ⟨a1, c1, h1, -, -⟩ := (hp.its.sl.at hw).form
 obtain ⟨a2, c2, h2⟩ := (hp.data.at hw).form
 rw [List.length_map] at h1
 simp only [PgV.cells, h1, h2]
 clear h1 h2
 refine calls_of_x (args := [_]) Tryz.func96 rfl Tryz.ntmps96 rfl rfl ?_
 refine z2 ?_
 refine x_box rfl rfl trivial rfl rfl hw rfl (fun w b1 hw => ?_)
 refine z3 ?_
 refine x_draw [0, 1, 2, 3, 4, 5, 6, 7, 8, 9, 10, 11, 12, 13] mixed (by kernel_rfl) ?_
 replace hw := hw.drawn (w.drawn + 1)
 refine z1 ?_
 refine lD one_sl_api_Item hw ?_
 refine z2 ?_
 refine lD one_sl_uint8 hw ?_
 refine z3 ?_
 refine xl_and (l1 := [8, 9, 10, 11]) (l2 := [12, 13]) rfl (d := 16) ((p.data.length : Int) = 0 ∧ p.next = 0) rfl ?_ ?_
 ·
  refine xl_split (d := 12) rfl (fun h1 => ?_) (fun h1 => ?_)
  ·
   refine z1 ?_
   refine lD one_int hw ?_
   refine z3 ?_
   refine cQ ?_
   exact dC
  refine z5 ?_
  refine cQ ?_
  exact dC
 refine z7 ?_
 refine lD one_int hw ?_
 refine z7 ?_
 refine x_if rfl (fun h2 => ?_) (fun h2 => ?_)
 ·
  refine z4 ?_
  refine xl_split (d := 22) rfl (fun h3 => ?_) (fun h3 => ?_)
  ·
   refine z1 ?_
   refine lD one_int hw ?_
   refine z3 ?_
   refine xl_split (d := 27) rfl (fun h4 => ?_) (fun h4 => ?_)
   ·
    refine z4 ?_
    refine xl_split (d := 31) rfl (fun h5 => ?_) (fun h5 => ?_)
    ·
     refine z6 ?_
     exact end1 rfl rfl rfl ⟨congrArg Value.bool (by unfold formN; exact dC), hw.tail⟩
    refine z6 ?_
    exact end1 rfl rfl rfl ⟨congrArg Value.bool (by unfold formN; exact dC), hw.tail⟩
   refine z10 ?_
   exact end1 rfl rfl rfl ⟨congrArg Value.bool (by unfold formN; exact dC), hw.tail⟩
  refine z15 ?_
  exact end1 rfl rfl rfl ⟨congrArg Value.bool (by unfold formN; exact dC), hw.tail⟩
 refine z5 ?_
 refine x_if rfl (fun h6 => ?_) (fun h6 => ?_)
 ·
  refine z4 ?_
  refine xl_split (d := 38) rfl (fun h7 => ?_) (fun h7 => ?_)
  ·
   refine z1 ?_
   refine lD one_int hw ?_
   refine z3 ?_
   refine xl_split (d := 43) rfl (fun h8 => ?_) (fun h8 => ?_)
   ·
    refine z1 ?_
    refine lD one_int hw ?_
    refine z3 ?_
    refine xl_split (d := 48) rfl (fun h9 => ?_) (fun h9 => ?_)
    ·
     refine z4 ?_
     refine xl_split (d := 52) rfl (fun h10 => ?_) (fun h10 => ?_)
     ·
      refine z6 ?_
      exact end1 rfl rfl rfl ⟨congrArg Value.bool (by unfold formN; exact dC), hw.tail⟩
     refine z6 ?_
     exact end1 rfl rfl rfl ⟨congrArg Value.bool (by unfold formN; exact dC), hw.tail⟩
    refine z10 ?_
    exact end1 rfl rfl rfl ⟨congrArg Value.bool (by unfold formN; exact dC), hw.tail⟩
   refine z15 ?_
   exact end1 rfl rfl rfl ⟨congrArg Value.bool (by unfold formN; exact dC), hw.tail⟩
  refine z20 ?_
  exact end1 rfl rfl rfl ⟨congrArg Value.bool (by unfold formN; exact dC), hw.tail⟩
 refine z4 ?_
 refine lD one_int hw ?_
 refine z2 ?_
 refine xl_split (d := 59) rfl (fun h11 => ?_) (fun h11 => ?_)
 ·
  refine z4 ?_
  refine xl_split (d := 63) rfl (fun h12 => ?_) (fun h12 => ?_)
  ·
   refine z1 ?_
   refine lD one_sl_uint8 hw ?_
   refine z4 ?_
   refine xl_split (d := 69) rfl (fun h13 => ?_) (fun h13 => ?_)
   ·
    refine z1 ?_
    refine lD one_sl_uint8 hw ?_
    refine z6 ?_
    exact end1 rfl rfl rfl ⟨congrArg Value.bool (by unfold formN; exact dC), hw.tail⟩
   refine z8 ?_
   exact end1 rfl rfl rfl ⟨congrArg Value.bool (by unfold formN; exact dC), hw.tail⟩
  refine z14 ?_
  exact end1 rfl rfl rfl ⟨congrArg Value.bool (by unfold formN; exact dC), hw.tail⟩
 refine z18 ?_
 exact end1 rfl rfl rfl ⟨congrArg Value.bool (by unfold formN; exact dC), hw.tail⟩
theorem ct_ref07_form {p : PgV} (hw : Sat G L w) (hp : p.Ok L) (hk : 1 ≤ p.kind ∧ p.kind ≤ 3) :
  Calls Tryz.prog 113 #[.agg p.cells.toArray] w (Ret fun r w' => r = .bool (decide (formN p.kind p.level p.next p.l.length p.data.length)) ∧ Sat G L w') := by
 obtain ⟨a1, c1, h1, -, -⟩ := (hp.its.sl.at hw).form
 obtain ⟨a2, c2, h2⟩ := (hp.data.at hw).form
 rw [List.length_map] at h1
 simp only [PgV.cells, h1, h2]
 clear h1 h2
 refine calls_of_x (args := [_]) Tryz.func113 rfl Tryz.ntmps113 rfl rfl ?_
 refine z2 ?_
 refine x_box rfl rfl trivial rfl rfl hw rfl (fun w b1 hw => ?_)
 refine z5 ?_
 refine lD one_sl_api_Item hw ?_
 refine z7 ?_
 refine lD one_int hw ?_
 refine z2 ?_
 refine x_if rfl (fun h1 => ?_) (fun h1 => ?_)
 ·
  refine z3 ?_
  refine lD one_int hw ?_
  refine z2 ?_
  refine xl_split (d := 13) rfl (fun h2 => ?_) (fun h2 => ?_)
  ·
   refine z4 ?_
   refine xl_split (d := 17) rfl (fun h3 => ?_) (fun h3 => ?_)
   ·
    refine z1 ?_
    refine lD one_sl_uint8 hw ?_
    refine z4 ?_
    refine xl_split (d := 23) rfl (fun h4 => ?_) (fun h4 => ?_)
    ·
     refine z1 ?_
     refine lD one_sl_uint8 hw ?_
     refine z6 ?_
     exact end1 rfl rfl rfl ⟨congrArg Value.bool (by unfold formN; exact dC), hw.tail⟩
    refine z8 ?_
    exact end1 rfl rfl rfl ⟨congrArg Value.bool (by unfold formN; exact dC), hw.tail⟩
   refine z14 ?_
   exact end1 rfl rfl rfl ⟨congrArg Value.bool (by unfold formN; exact dC), hw.tail⟩
  refine z18 ?_
  exact end1 rfl rfl rfl ⟨congrArg Value.bool (by unfold formN; exact dC), hw.tail⟩
 refine z5 ?_
 refine lD one_sl_uint8 hw ?_
 refine z3 ?_
 refine xl_and (l1 := [5, 6, 7, 8]) (l2 := [9, 10, 11, 12]) rfl (d := 37) (¬ (p.data.length : Int) = 0 ∨ p.next ≠ 0) rfl ?_ ?_
 ·
  refine xl_split (d := 33) rfl (fun h5 => ?_) (fun h5 => ?_)
  ·
   refine z5 ?_
   refine cQ ?_
   exact dC
  refine z1 ?_
  refine lD one_int hw ?_
  refine z3 ?_
  refine cQ ?_
  exact dC
 refine z1 ?_
 refine xl_and (l1 := [10, 11, 12]) (l2 := []) rfl (d := 41) (¬ (p.data.length : Int) = 0 ∨ p.next ≠ 0 ∨ 8 < p.l.length) rfl ?_ ?_
 ·
  refine xl_split (d := 38) rfl (fun h6 => ?_) (fun h6 => ?_)
  ·
   refine z4 ?_
   refine cQ ?_
   exact dC
  refine z4 ?_
  refine cQ ?_
  exact dC
 refine xl_nil ?_
 refine x_if rfl (fun h7 => ?_) (fun h7 => ?_)
 ·
  refine z5 ?_
  exact end1 rfl rfl rfl ⟨congrArg Value.bool (by unfold formN; exact dC), hw.tail⟩
 refine z5 ?_
 refine lD one_int hw ?_
 refine z2 ?_
 refine x_if rfl (fun h8 => ?_) (fun h8 => ?_)
 ·
  refine z3 ?_
  refine lD one_int hw ?_
  refine z2 ?_
  refine xl_split (d := 48) rfl (fun h9 => ?_) (fun h9 => ?_)
  ·
   refine z6 ?_
   exact end1 rfl rfl rfl ⟨congrArg Value.bool (by unfold formN; exact dC), hw.tail⟩
  refine z6 ?_
  exact end1 rfl rfl rfl ⟨congrArg Value.bool (by unfold formN; exact dC), hw.tail⟩
 refine z4 ?_
 refine lD one_int hw ?_
 refine z2 ?_
 refine xl_split (d := 55) rfl (fun h10 => ?_) (fun h10 => ?_)
 ·
  refine z1 ?_
  refine lD one_int hw ?_
  refine z3 ?_
  refine xl_split (d := 60) rfl (fun h11 => ?_) (fun h11 => ?_)
  ·
   refine z6 ?_
   exact end1 rfl rfl rfl ⟨congrArg Value.bool (by unfold formN; exact dC), hw.tail⟩
  refine z6 ?_
  exact end1 rfl rfl rfl ⟨congrArg Value.bool (by unfold formN; exact dC), hw.tail⟩
 refine z11 ?_
 exact end1 rfl rfl rfl ⟨congrArg Value.bool (by unfold formN; exact dC), hw.tail⟩
theorem ct_page_Check_1 {q : Prop} [Decidable q] {er fe : Int} {b : Nat} (hw : Sat G (blk b [.int .i64 fe] 41 :: L) w) :
  Calls Tryz.prog 95 #[.bool (decide q), .int .i64 er, .pointer (some ⟨b, 0, none⟩)] w (Ret fun r w' => r = .tuple #[] ∧ Sat G (blk b [.int .i64 (fst fe (mst q er))] 41 :: L) w') := by
 refine calls_of_x (args := [_, _, _]) Tryz.func95 rfl Tryz.ntmps95 rfl rfl ?_
 refine z3 ?_
 refine x_notp rfl rfl trivial rfl ?_
 refine z1 ?_
 refine xl_and (l1 := [3, 4, 5]) (l2 := []) rfl (d := 10) (¬ q ∧ fe = 0) rfl ?_ ?_
 ·
  refine xl_split (d := 7) rfl (fun h1 => ?_) (fun h1 => ?_)
  ·
   refine lD one_api_Errno hw ?_
   refine z3 ?_
   refine cQ ?_
   first | (exact (decide_eq_false (fun h => h2 h.2)).symm) | (exact decide_eq_decide.2 ⟨fun h => ⟨h1, h⟩, fun h => h.2⟩) | (exact (decide_eq_false (fun h => h1 h.1)).symm)
  refine z4 ?_
  refine cQ ?_
  first | (exact (decide_eq_false (fun h => h2 h.2)).symm) | (exact decide_eq_decide.2 ⟨fun h => ⟨h1, h⟩, fun h => h.2⟩) | (exact (decide_eq_false (fun h => h1 h.1)).symm)
 refine xl_nil ?_
 refine x_if rfl (fun h2 => ?_) (fun h2 => ?_)
 ·
  refine z2 ?_
  refine x_st1 rfl trivial rfl rfl one_api_Errno rfl hw pK rfl rfl rfl (fun w hw => ?_)
  refine xl_nil ?_
  exact end0 rfl rfl ⟨rfl, by unfold fst mst; rw [if_pos h2.2, if_neg h2.1]; exact hw⟩
 refine x_skip ?_
 exact end0 rfl rfl ⟨rfl, by
 have e1 : fst fe (mst q er) = fe := by
  unfold fst mst
  by_cases hf : fe = 0
  ·rw [if_pos hf, if_pos (Decidable.not_not.1 fun hq => h2 ⟨hq, hf⟩), hf]
  ·rw [if_neg hf]
 rw [e1]; exact hw⟩
end
theorem lastKey_snoc (above : Bys) (l : List It) (x : It) : lastKey above (l ++ [x]) = x.key := by simp [lastKey]
theorem mst_congr {q q' : Prop} [Decidable q] [Decidable q'] {e : Int} (h : q ↔ q') : mst q e = mst q' e := by unfold mst; exact ite_congr (propext h) (fun _ => rfl) (fun _ => rfl)
theorem mst_len {l : Bys} {e : Int} : mst ((l.length : Int) = 0) e = mst (l.length = 0) e := mst_congr (by omega)
theorem mst_size {l : Bys} {n e : Int} : mst ((l.length : Int) = 0 ∧ n = 0) e = mst (l.length = 0 ∧ n = 0) e := mst_congr (by omega)
theorem checkP_pg (p : PgV) : checkP p.pg = fst (fst (mst (1 ≤ p.kind ∧ p.kind ≤ 3) 22) (mst (formN p.kind p.level p.next p.l.length p.data.length) 5)) (fst (itsErr p.kind 0 [] (p.l.map ItV.it)) (mst (p.next = 0 ∨ isPageP p.next) 15)) := by
 unfold checkP
 refine congr (congrArg fst (congrArg (fst _) (mst_congr ?_))) rfl
 simp only [PgV.pg, List.length_map]
theorem fst_eq (a b : Int) (h : a ≠ 0) : fst a b = a := by simp [fst, h]
section
variable {G : Gh} {L R : List Assn} {w : World}
theorem ct_page_Check {p : PgV} (hw : Sat G L w) (hp : p.Ok L) :
  Calls Tryz.prog 53 #[.agg p.cells.toArray] w (Ret fun r w' => r = .int .i64 (checkP p.pg) ∧ Sat G L w') := by
 obtain ⟨a1, c1, h1, -, -⟩ := (hp.its.sl.at hw).form
 obtain ⟨a2, c2, h2⟩ := (hp.data.at hw).form
 have hln := hp.its.len
 have hits := hp.its
 have hsl := hp.its.sl
 rw [List.length_map] at h1
 rw [h1] at hsl
 have hcl : p.cells = [.int .i64 p.kind, .int .i64 p.level, .slice a1 p.l.length c1, .slice a2 p.data.length c2, .int .i64 p.next] := by simp only [PgV.cells, h1, h2]
 have hcl' : #[.int .i64 p.kind, .int .i64 p.level, .slice a1 p.l.length c1, .slice a2 p.data.length c2, .int .i64 p.next] = p.cells.toArray := by rw [hcl]
 rw [hcl]
 refine calls_of_x (args := [_]) Tryz.func53 rfl Tryz.ntmps53 rfl rfl ?_
 refine z2 ?_
 refine x_box rfl rfl trivial rfl rfl hw rfl (fun w b1 hw => ?_)
 refine z4 ?_
 refine x_alloc rfl rfl trivial z_api_Errno hw rfl (fun w b3 hw => ?_)
 refine x_st1 (l' := [.int .i64 0]) rfl trivial rfl rfl one_api_Errno rfl hw pK rfl rfl rfl (fun w hw => ?_)
 refine z3 ?_
 refine x_mkf (v1 := #[]) (v2 := #[.pointer (some ⟨b3, 0, none⟩)]) rfl rfl trivial (by intro z hz; simp at hz; subst hz; exact ⟨_, rfl⟩) (by simp) (by simp only [List.map_toArray, List.map_cons, List.map_nil]; rfl) ?_
 refine z6 ?_
 refine lD one_int hw ?_
 refine z2 ?_
 refine xl_and (l1 := [5, 6, 7, 8]) (l2 := [9]) rfl (d := 18) (1 ≤ p.kind ∧ p.kind ≤ 3) rfl ?_ ?_
 ·
  refine xl_split (d := 14) rfl (fun h1 => ?_) (fun h1 => ?_)
  ·
   refine z1 ?_
   refine lD one_int hw ?_
   refine z3 ?_
   refine cQ ?_
   exact dC
  refine z5 ?_
  refine cQ ?_
  exact dC
 refine x_callv rfl rfl trivial rfl cal_page_Check_1 rfl rfl (ct_page_Check_1 (q := 1 ≤ p.kind ∧ p.kind ≤ 3) (er := 22) (fe := 0) (hw.pick (A := blk b3 _ _) pK)) rfl (fun w v19 hv => ?_)
 obtain ⟨-, hw⟩ := hv
 rw [zero_fst] at hw
 refine z4 ?_
 refine x_ld rfl rfl trivial rfl (Loads.blkA many_api_Page hw pK (by simp)) ?_
 refine x_call rfl rfl trivial cal_page_form rfl (by have h := ct_page_form (p := p) hw (hp.of sF); rw [hcl] at h; exact h) rfl (fun w v22 hv => ?_)
 obtain ⟨rfl, hw⟩ := hv
 refine x_callv rfl rfl trivial rfl cal_page_Check_1 rfl rfl (ct_page_Check_1 (q := formN p.kind p.level p.next p.l.length p.data.length) (er := 5) (hw.pick (A := blk b3 _ _) pK)) rfl (fun w v23 hv => ?_)
 obtain ⟨-, hw⟩ := hv
 refine z4 ?_
 refine lD one_api_Errno hw ?_
 refine z2 ?_
 refine x_if rfl (fun h2 => ?_) (fun h2 => ?_)
 ·
  refine z2 ?_
  refine lD one_api_Errno hw ?_
  refine z3 ?_
  exact end1 rfl rfl rfl ⟨by rw [checkP_pg, fst_eq _ (fst (itsErr _ _ _ _) _) h2], hw.tail.tail⟩
 refine z9 ?_
 refine lD one_sl_api_Item hw ?_
 refine z4 ?_
 have hF := Decidable.not_not.1 h2
 rw [hF] at hw
 refine x_loop (fun m e w => ∃ (k : Nat) (av : Value), k ≤ p.l.length ∧ m = p.l.length - k ∧ e = [(1, .pointer (some ⟨b1, 0, none⟩)), (3, .pointer (some ⟨b3, 0, none⟩)), (4, .func (.func 95) #[] #[.pointer (some ⟨b3, 0, none⟩)]), (5, av), (28, .slice a1 p.l.length c1), (29, .int .i64 p.l.length), (30, .int .i64 k)] ∧ Knows L (SlB av (lastKey [] ((p.l.map ItV.it).take k))) ∧ Sat G (blk b3 [.int .i64 (itsErr p.kind 0 [] ((p.l.map ItV.it).take k))] 41 :: blk b1 [.int .i64 p.kind, .int .i64 p.level, .slice a1 p.l.length c1, .slice a2 p.data.length c2, .int .i64 p.next] 75 :: L) w)
  (m := p.l.length) (e₀ := [(1, .pointer (some ⟨b1, 0, none⟩)), (3, .pointer (some ⟨b3, 0, none⟩)), (4, .func (.func 95) #[] #[.pointer (some ⟨b3, 0, none⟩)]), (5, .slice none 0 0), (28, .slice a1 p.l.length c1), (29, .int .i64 p.l.length), (30, .int .i64 (0 : Nat))]) sB
  ⟨0, _, Nat.zero_le _, rfl, rfl, fun _ _ _ => .inl ⟨⟨none, rfl⟩, rfl⟩, hw⟩ ?_
 rintro m e w ⟨k, av, hk, rfl, rfl, hav, hw⟩
 refine z5 ?_
 refine x_if rfl (fun h3 => ?_) (fun h3 => ?_)
 ·
  have hk' : k < p.l.length := by omega
  obtain ⟨x, hx⟩ : ∃ x, p.l[k]? = some x := ⟨_, List.getElem?_eq_getElem hk'⟩
  have hxo := hits.it x (List.mem_of_getElem? hx)
  have hxk := hxo.k
  have hxr : (p.l.map ItV.cells)[k]? = some x.cells := by rw [List.getElem?_map, hx]; rfl
  obtain ⟨ak, ck, hkv⟩ := (hxo.k.at hw.tail.tail).form
  obtain ⟨av2, cv2, hvv⟩ := (hxo.v.at hw.tail.tail).form
  have hxc : x.cells = [.slice ak x.it.key.length ck, .slice av2 x.it.value.length cv2, .int .i64 x.it.child, .int .i64 x.it.size] := by simp only [ItV.cells, hkv, hvv]
  rw [hkv] at hxk
  obtain ⟨aav, cav, hfv⟩ := (hav.at hw.tail.tail).form
  obtain ⟨ab, hab⟩ : ∃ ab, ab = lastKey [] ((p.l.map ItV.it).take k) := ⟨_, rfl⟩
  obtain ⟨E, hE⟩ : ∃ E, E = itsErr p.kind 0 [] ((p.l.map ItV.it).take k) := ⟨_, rfl⟩
  have hE1 : itsErr p.kind 0 [] ((p.l.map ItV.it).take (k + 1)) = fst E (itErr p.kind k ab x.it) := by
   rw [List.take_add_one, List.getElem?_map, hx, hE, hab]
   simp only [Option.map_some, Option.toList_some]
   rw [itsErr_snoc, List.length_take, List.length_map, Nat.zero_add, Nat.min_eq_left (by omega)]
  have hL1 : lastKey [] ((p.l.map ItV.it).take (k + 1)) = x.it.key := by
   rw [List.take_add_one, List.getElem?_map, hx]
   exact lastKey_snoc _ _ _
  rw [← hab] at hav hfv
  rw [← hE] at hw
  obtain ⟨bb, oo, rfl⟩ := ((hsl.of sF).at hw).nn (by rw [List.length_map]; omega)
  refine z6 ?_
  refine x_idx rfl rfl trivial U_sl_api_Item sz_api_Item rfl rfl ⟨by omega, by omega⟩ ?_
  refine x_ld rfl rfl trivial rfl (Loads.many many_api_Item rfl (by rw [Int.toNat_natCast]; exact ((hsl.of sF).at hw).at hxr)) ?_
  refine x_alloc rfl rfl trivial z_api_Item hw rfl (fun w b7 hw => ?_)
  refine z1 ?_
  refine x_stN (cs := x.cells) (l' := x.cells) rfl trivial rfl rfl many_api_Item rfl (ones_cells (hxo.of sF) hw) hw pK (by simp) rfl rfl (fun w hw => ?_)
  rw [hxc] at hw
  refine z4 ?_
  refine lD one_sl_uint8 hw ?_
  refine z3 ?_
  refine x_join (fun e w => e = [(1, .pointer (some ⟨b1, 0, none⟩)), (3, .pointer (some ⟨b3, 0, none⟩)), (4, .func (.func 95) #[] #[.pointer (some ⟨b3, 0, none⟩)]), (5, av), (7, .pointer (some ⟨b7, 0, none⟩)), (28, .slice (some ⟨bb, oo, none⟩) p.l.length c1), (29, .int .i64 p.l.length), (30, .int .i64 k)] ∧ Sat G (blk b3 [.int .i64 (fst E (fst (keyErr p.kind k x.it) (ordErr p.kind k ab x.it)))] 41 :: blk b7 [.slice ak x.it.key.length ck, .slice av2 x.it.value.length cv2, .int .i64 x.it.child, .int .i64 x.it.size] 114 :: blk b1 [.int .i64 p.kind, .int .i64 p.level, .slice (some ⟨bb, oo, none⟩) p.l.length c1, .slice a2 p.data.length c2, .int .i64 p.next] 75 :: L) w) ?_ ?_
  ·
   refine z3 ?_
   refine lD one_int hw ?_
   refine z2 ?_
   refine xl_and (l1 := [4, 5, 6]) (l2 := []) rfl (d := 44) (p.kind = 2 ∧ k = 0) rfl ?_ ?_
   ·
    refine xl_split (d := 41) rfl (fun h4 => ?_) (fun h4 => ?_)
    ·
     refine z4 ?_
     refine cQ ?_
     exact dC
    refine z4 ?_
    refine cQ ?_
    exact dC
   refine xl_nil ?_
   refine x_if rfl (fun h5 => ?_) (fun h5 => ?_)
   ·
    refine z4 ?_
    refine x_callv rfl rfl trivial rfl cal_page_Check_1 rfl rfl (ct_page_Check_1 (q := (x.it.key.length : Int) = 0) (er := 7) (hw.pick (A := blk b3 _ _) pK)) rfl (fun w v48 hv => ?_)
    obtain ⟨-, hw⟩ := hv
    refine xl_nil ?_
    have e1 : fst (keyErr p.kind k x.it) (ordErr p.kind k ab x.it) = mst ((x.it.key.length : Int) = 0) 7 := by
     unfold keyErr ordErr; rw [if_pos h5, if_pos h5, fst_zero]; exact mst_congr (by omega)
    rw [e1]
    exact ⟨[(1, _), (3, _), (4, _), (5, _), (7, _), (28, _), (29, _), (30, _)], sB, rfl, hw.b [blk b3 _ _, blk b7 _ _, blk b1 _ _]⟩
   refine z6 ?_
   refine xl_and (l1 := [4, 5, 6]) (l2 := [7]) rfl (d := 55) (1 ≤ (x.it.key.length : Int) ∧ (x.it.key.length : Int) ≤ 24) rfl ?_ ?_
   ·
    refine xl_split (d := 52) rfl (fun h6 => ?_) (fun h6 => ?_)
    ·
     refine z4 ?_
     refine cQ ?_
     exact dC
    refine z4 ?_
    refine cQ ?_
    exact dC
   refine x_callv rfl rfl trivial rfl cal_page_Check_1 rfl rfl (ct_page_Check_1 (q := 1 ≤ (x.it.key.length : Int) ∧ (x.it.key.length : Int) ≤ 24) (er := 7) (hw.pick (A := blk b3 _ _) pK)) rfl (fun w v56 hv => ?_)
   obtain ⟨-, hw⟩ := hv
   refine z6 ?_
   refine xl_andM (l1 := [4, 5, 6, 7, 8, 9]) (l2 := [10]) rfl (d := 66) (k = 0 ∨ 0 < cmpB x.it.key ab) (fun w => Sat G (blk b3 [.int .i64 (fst E (mst (1 ≤ (x.it.key.length : Int) ∧ (x.it.key.length : Int) ≤ 24) 7))] 41 :: blk b7 [.slice ak x.it.key.length ck, .slice av2 x.it.value.length cv2, .int .i64 x.it.child, .int .i64 x.it.size] 114 :: blk b1 [.int .i64 p.kind, .int .i64 p.level, .slice (some ⟨bb, oo, none⟩) p.l.length c1, .slice a2 p.data.length c2, .int .i64 p.next] 75 :: L) w) rfl ?_ ?_
   ·
    refine xl_split (d := 60) rfl (fun h7 => ?_) (fun h7 => ?_)
    ·
     refine z7 ?_
     refine ⟨hw, congrArg some (congrArg Value.bool ?_)⟩
     exact dC
    refine z1 ?_
    refine lD one_sl_uint8 hw ?_
    refine z1 ?_
    refine x_call rfl rfl ⟨_, rfl, rfl⟩ cal_bytes_Compare rfl (ct_bytes_Compare hw (hxk.of sF) (hav.of sF)) rfl (fun w v64 hv => ?_)
    obtain ⟨rfl, hw⟩ := hv
    refine z3 ?_
    refine ⟨hw, congrArg some (congrArg Value.bool ?_)⟩
    exact dC
   clear hw; intro w hw
   refine x_callv rfl rfl trivial rfl cal_page_Check_1 rfl rfl (ct_page_Check_1 (q := k = 0 ∨ 0 < cmpB x.it.key ab) (er := 11) (hw.pick (A := blk b3 _ _) pK)) rfl (fun w v67 hv => ?_)
   obtain ⟨-, hw⟩ := hv
   refine xl_nil ?_
   have e1 : fst (keyErr p.kind k x.it) (ordErr p.kind k ab x.it) = fst (mst (1 ≤ (x.it.key.length : Int) ∧ (x.it.key.length : Int) ≤ 24) 7) (mst (k = 0 ∨ 0 < cmpB x.it.key ab) 11) := by
    unfold keyErr ordErr; rw [if_neg h5, if_neg h5]; exact congr (congrArg fst (mst_congr (by omega))) (mst_congr (by omega))
   rw [e1, ← fst_assoc]
   exact ⟨[(1, _), (3, _), (4, _), (5, _), (7, _), (28, _), (29, _), (30, _)], sB, rfl, hw.b [blk b3 _ _, blk b7 _ _, blk b1 _ _]⟩
  clear hw
  rintro e w ⟨rfl, hw⟩
  refine z3 ?_
  refine lD one_sl_uint8 hw ?_
  refine z6 ?_
  refine lD one_int hw ?_
  refine z2 ?_
  refine x_if rfl (fun h8 => ?_) (fun h8 => ?_)
  ·
   refine z4 ?_
   refine lD one_sl_uint8 hw ?_
   refine z3 ?_
   refine xl_and (l1 := [6, 7, 8, 9]) (l2 := [10]) rfl (d := 82) ((x.it.value.length : Int) = 0 ∧ x.it.size = 0) rfl ?_ ?_
   ·
    refine xl_split (d := 78) rfl (fun h9 => ?_) (fun h9 => ?_)
    ·
     refine z1 ?_
     refine lD one_int hw ?_
     refine z3 ?_
     refine cQ ?_
     exact dC
    refine z5 ?_
    refine cQ ?_
    exact dC
   refine x_callv rfl rfl trivial rfl cal_page_Check_1 rfl rfl (ct_page_Check_1 (q := (x.it.value.length : Int) = 0 ∧ x.it.size = 0) (er := 8) (hw.pick (A := blk b3 _ _) pK)) rfl (fun w v83 hv => ?_)
   obtain ⟨-, hw⟩ := hv
   refine z5 ?_
   refine lD one_int hw ?_
   refine x_call rfl rfl trivial cal_page_isPage rfl (ct_page_isPage hw) rfl (fun w v87 hv => ?_)
   obtain ⟨rfl, hw⟩ := hv
   refine x_callv rfl rfl trivial rfl cal_page_Check_1 rfl rfl (ct_page_Check_1 (q := isPageP x.it.child) (er := 15) (hw.pick (A := blk b3 _ _) pK)) rfl (fun w v88 hv => ?_)
   obtain ⟨-, hw⟩ := hv
   refine z6 ?_
   refine ⟨p.l.length - (k + 1), by omega, [(1, _), (3, _), (4, _), (5, _), (28, _), (29, _), (30, .int .i64 (k + 1 : Nat))], sB, k + 1, _, by omega, rfl, rfl, by rw [hL1]; exact hxk, ?_⟩
   rw [hE1]
   simp only [fst_assoc, mst_len, mst_size] at hw
   unfold itErr valErr chlErr
   rw [if_pos h8, if_pos h8]
   try simp only [fst_assoc, mst_len, mst_size]
   exact (hw.b [blk b7 _ _, blk b3 _ _, blk b1 _ _]).tail
  refine z5 ?_
  refine lD one_int hw ?_
  refine z2 ?_
  refine xl_and (l1 := [5, 6, 7, 8]) (l2 := [9]) rfl (d := 97) (0 ≤ x.it.size ∧ x.it.size ≤ 3840) rfl ?_ ?_
  ·
   refine xl_split (d := 93) rfl (fun h10 => ?_) (fun h10 => ?_)
   ·
    refine z1 ?_
    refine lD one_int hw ?_
    refine z3 ?_
    refine cQ ?_
    exact dC
   refine z5 ?_
   refine cQ ?_
   exact dC
  refine x_callv rfl rfl trivial rfl cal_page_Check_1 rfl rfl (ct_page_Check_1 (q := 0 ≤ x.it.size ∧ x.it.size ≤ 3840) (er := 8) (hw.pick (A := blk b3 _ _) pK)) rfl (fun w v98 hv => ?_)
  obtain ⟨-, hw⟩ := hv
  refine z4 ?_
  refine lD one_int hw ?_
  refine z2 ?_
  refine x_if rfl (fun h11 => ?_) (fun h11 => ?_)
  ·
   refine z4 ?_
   refine lD one_sl_uint8 hw ?_
   refine z2 ?_
   refine lD one_int hw ?_
   refine z1 ?_
   refine x_callv rfl rfl trivial rfl cal_page_Check_1 rfl rfl (ct_page_Check_1 (q := (x.it.value.length : Int) = x.it.size) (er := 8) (hw.pick (A := blk b3 _ _) pK)) rfl (fun w v109 hv => ?_)
   obtain ⟨-, hw⟩ := hv
   refine z4 ?_
   refine lD one_int hw ?_
   refine z1 ?_
   refine x_callv rfl rfl trivial rfl cal_page_Check_1 rfl rfl (ct_page_Check_1 (q := x.it.child = 0) (er := 15) (hw.pick (A := blk b3 _ _) pK)) rfl (fun w v114 hv => ?_)
   obtain ⟨-, hw⟩ := hv
   refine z5 ?_
   refine ⟨p.l.length - (k + 1), by omega, [(1, _), (3, _), (4, _), (5, _), (28, _), (29, _), (30, .int .i64 (k + 1 : Nat))], sB, k + 1, _, by omega, rfl, rfl, by rw [hL1]; exact hxk, ?_⟩
   rw [hE1]
   simp only [fst_assoc, mst_len, mst_size] at hw
   unfold itErr valErr chlErr
   rw [if_neg h8, if_pos h11, if_neg h8, if_pos h11]
   try simp only [fst_assoc, mst_len, mst_size]
   exact (hw.b [blk b7 _ _, blk b3 _ _, blk b1 _ _]).tail
  refine z4 ?_
  refine lD one_sl_uint8 hw ?_
  refine z2 ?_
  refine x_callv rfl rfl trivial rfl cal_page_Check_1 rfl rfl (ct_page_Check_1 (q := (x.it.value.length : Int) = 0) (er := 8) (hw.pick (A := blk b3 _ _) pK)) rfl (fun w v120 hv => ?_)
  obtain ⟨-, hw⟩ := hv
  refine z4 ?_
  refine lD one_int hw ?_
  refine x_call rfl rfl trivial cal_page_isPage rfl (ct_page_isPage hw) rfl (fun w v124 hv => ?_)
  obtain ⟨rfl, hw⟩ := hv
  refine x_callv rfl rfl trivial rfl cal_page_Check_1 rfl rfl (ct_page_Check_1 (q := isPageP x.it.child) (er := 15) (hw.pick (A := blk b3 _ _) pK)) rfl (fun w v125 hv => ?_)
  obtain ⟨-, hw⟩ := hv
  refine z5 ?_
  refine ⟨p.l.length - (k + 1), by omega, [(1, _), (3, _), (4, _), (5, _), (28, _), (29, _), (30, .int .i64 (k + 1 : Nat))], sB, k + 1, _, by omega, rfl, rfl, by rw [hL1]; exact hxk, ?_⟩
  rw [hE1]
  simp only [fst_assoc, mst_len, mst_size] at hw
  unfold itErr valErr chlErr
  rw [if_neg h8, if_neg h11, if_neg h8, if_neg h11]
  try simp only [fst_assoc, mst_len, mst_size]
  exact (hw.b [blk b7 _ _, blk b3 _ _, blk b1 _ _]).tail
 refine z5 ?_
 refine lD one_int hw ?_
 refine z2 ?_
 refine xl_andM (l1 := [5, 6, 7, 8]) (l2 := [9]) rfl (d := 135) (p.next = 0 ∨ isPageP p.next) (fun w => Sat G (blk b3 [.int .i64 (itsErr p.kind 0 [] ((p.l.map ItV.it).take k))] 41 :: blk b1 [.int .i64 p.kind, .int .i64 p.level, .slice a1 p.l.length c1, .slice a2 p.data.length c2, .int .i64 p.next] 75 :: L) w) rfl ?_ ?_
 ·
  refine xl_split (d := 131) rfl (fun h12 => ?_) (fun h12 => ?_)
  ·
   refine z5 ?_
   refine ⟨hw, congrArg some (congrArg Value.bool ?_)⟩
   first | exact (decide_eq_true (Or.inl h12)).symm | exact decide_eq_decide.2 ⟨.inr, fun h => h.resolve_left h12⟩
  refine z1 ?_
  refine lD one_int hw ?_
  refine x_call rfl rfl ⟨_, rfl, rfl⟩ cal_page_isPage rfl (ct_page_isPage hw) rfl (fun w v134 hv => ?_)
  obtain ⟨rfl, hw⟩ := hv
  refine z2 ?_
  refine ⟨hw, congrArg some (congrArg Value.bool ?_)⟩
  first | exact (decide_eq_true (Or.inl h12)).symm | exact decide_eq_decide.2 ⟨.inr, fun h => h.resolve_left h12⟩
 clear hw; intro w hw
 refine x_callv rfl rfl trivial rfl cal_page_Check_1 rfl rfl (ct_page_Check_1 (q := p.next = 0 ∨ isPageP p.next) (er := 15) (hw.pick (A := blk b3 _ _) pK)) rfl (fun w v136 hv => ?_)
 obtain ⟨-, hw⟩ := hv
 refine z3 ?_
 refine lD one_api_Errno hw ?_
 refine z3 ?_
 exact end1 rfl rfl rfl ⟨by
 rw [checkP_pg, hF, zero_fst, show (p.l.map ItV.it).take k = p.l.map ItV.it from List.take_of_length_le (by rw [List.length_map]; omega)], hw.tail.tail⟩
end
theorem mst_zero {q : Prop} [Decidable q] {e : Int} (h : e ≠ 0) : mst q e = 0 ↔ q := by unfold mst; by_cases hq : q <;> simp [hq, h]
theorem mst_yes {q : Prop} [Decidable q] {e : Int} (h : q) : mst q e = 0 := if_pos h
theorem mst_no {q : Prop} [Decidable q] {e : Int} (h : ¬ q) : mst q e = e := if_neg h
theorem fst_zero_iff {a b : Int} : fst a b = 0 ↔ a = 0 ∧ b = 0 := by unfold fst; by_cases h : a = 0 <;> simp [h]
theorem PgV.Ok.form {G : Gh} {w : World} {L : List Assn} {p : PgV} (h : p.Ok L) (hw : Sat G L w) : ∃ a1 c1 a2 c2, p.s = .slice a1 p.l.length c1 ∧ p.d = .slice a2 p.data.length c2 ∧ p.cells = [.int .i64 p.kind, .int .i64 p.level, .slice a1 p.l.length c1, .slice a2 p.data.length c2, .int .i64 p.next] := by
 obtain ⟨a1, c1, h1, -, -⟩ := (h.its.sl.at hw).form
 obtain ⟨a2, c2, h2⟩ := (h.data.at hw).form
 rw [List.length_map] at h1
 exact ⟨a1, c1, a2, c2, h1, h2, by simp only [PgV.cells, h1, h2]⟩
theorem ItV.Ok.form {G : Gh} {w : World} {L : List Assn} {x : ItV} (h : x.Ok L) (hw : Sat G L w) : ∃ a1 c1 a2 c2, x.kv = .slice a1 x.it.key.length c1 ∧ x.vv = .slice a2 x.it.value.length c2 ∧ x.cells = [.slice a1 x.it.key.length c1, .slice a2 x.it.value.length c2, .int .i64 x.it.child, .int .i64 x.it.size] := by
 obtain ⟨a1, c1, h1⟩ := (h.k.at hw).form
 obtain ⟨a2, c2, h2⟩ := (h.v.at hw).form
 exact ⟨a1, c1, a2, c2, h1, h2, by simp only [ItV.cells, h1, h2]⟩
def kidsI (kind : Int) (l : List It) : List Int := l.filterMap fun x => if kind = 2 ∨ (kind = 1 ∧ x.child ≠ 0) then some x.child else none
theorem kidsI_snoc (kind : Int) (l : List It) (x : It) : kidsI kind (l ++ [x]) = kidsI kind l ++ (if kind = 2 ∨ (kind = 1 ∧ x.child ≠ 0) then [x.child] else []) := by
 unfold kidsI
 rw [List.filterMap_append]
 by_cases h : kind = 2 ∨ (kind = 1 ∧ x.child ≠ 0) <;> simp [h]
theorem kidsI_len (kind : Int) (l : List It) : (kidsI kind l).length ≤ l.length := List.length_filterMap_le _ _
theorem kidsP_pg (p : PgV) : kidsP p.pg = kidsI p.kind (p.l.map ItV.it) ++ (if p.kind = 3 ∧ p.next ≠ 0 then [p.next] else []) := rfl
theorem take_snoc {p : PgV} {k : Nat} {x : ItV} (hx : p.l[k]? = some x) : (p.l.map ItV.it).take (k + 1) = (p.l.map ItV.it).take k ++ [x.it] := by
 rw [List.take_add_one, List.getElem?_map, hx]; rfl
theorem take_all {p : PgV} {k : Nat} (h : p.l.length ≤ k) : (p.l.map ItV.it).take k = p.l.map ItV.it := List.take_of_length_le (by rw [List.length_map]; omega)
theorem ints_snoc (l : List Int) (n : Int) : ints (l ++ [n]) = ints l ++ [.int .i64 n] := by simp [ints]
section
variable {G : Gh} {L R : List Assn} {w : World}
theorem ct_ref07_key {p : PgV} {k : Nat} {x : ItV} (hw : Sat G L w) (hp : p.Ok L) (hx : p.l[k]? = some x) :
  Calls Tryz.prog 114 #[.agg p.cells.toArray, .int .i64 k] w (Ret fun r w' => r = .bool (decide (keyErr p.kind k x.it = 0)) ∧ Sat G L w') := by
 have hk' : k < p.l.length := (List.getElem?_eq_some_iff.1 hx).1
 have hln := hp.its.len
 have hsl := hp.its.sl
 obtain ⟨a1, c1, a2, c2, h1, h2, hcl⟩ := hp.form hw
 have hxo := hp.its.it x (List.mem_of_getElem? hx)
 obtain ⟨a3, c3, a4, c4, h3, h4, hxc⟩ := hxo.form hw
 have hxr : (p.l.map ItV.cells)[k]? = some x.cells := by rw [List.getElem?_map, hx]; rfl
 rw [hxc] at hxr
 rw [h1] at hsl
 rw [hcl]
 obtain ⟨b, o, rfl⟩ := (hsl.at hw).nn (by rw [List.length_map]; omega)
 clear h1 h2 h3 h4
 refine calls_of_x (args := [_, _]) Tryz.func114 rfl Tryz.ntmps114 rfl rfl ?_
 refine z2 ?_
 refine x_box rfl rfl trivial rfl rfl hw rfl (fun w b2 hw => ?_)
 refine z5 ?_
 refine lD one_sl_api_Item hw ?_
 refine z1 ?_
 refine x_idx rfl rfl trivial U_sl_api_Item sz_api_Item rfl rfl ⟨by omega, by omega⟩ ?_
 refine x_fldk rfl rfl trivial fo_api_Item_0 rfl ?_
 refine x_ld rfl rfl trivial rfl (Loads.one one_sl_uint8 (((hsl.of sF).at hw).cell hxr rfl)) ?_
 refine z7 ?_
 refine lD one_int hw ?_
 refine z2 ?_
 refine xl_and (l1 := [4, 5, 6]) (l2 := []) rfl (d := 19) (p.kind = 2 ∧ k = 0) rfl ?_ ?_
 ·
  refine xl_split (d := 16) rfl (fun h1 => ?_) (fun h1 => ?_)
  ·
   refine z4 ?_
   refine cQ ?_
   exact dC
  refine z4 ?_
  refine cQ ?_
  exact dC
 refine xl_nil ?_
 refine x_if rfl (fun h2 => ?_) (fun h2 => ?_)
 ·
  refine z7 ?_
  exact end1 rfl rfl rfl ⟨congrArg Value.bool (decide_eq_decide.2 (by unfold keyErr; rw [if_pos h2, mst_zero (by decide)]; omega)), hw.tail⟩
 refine z6 ?_
 refine xl_and (l1 := [3, 4, 5]) (l2 := [6]) rfl (d := 27) (1 ≤ (x.it.key.length : Int) ∧ (x.it.key.length : Int) ≤ 24) rfl ?_ ?_
 ·
  refine xl_split (d := 24) rfl (fun h3 => ?_) (fun h3 => ?_)
  ·
   refine z4 ?_
   refine cQ ?_
   exact dC
  refine z4 ?_
  refine cQ ?_
  exact dC
 refine z3 ?_
 exact end1 rfl rfl rfl ⟨congrArg Value.bool (decide_eq_decide.2 (by unfold keyErr; rw [if_neg h2, mst_zero (by decide)]; omega)), hw.tail⟩
theorem ct_ref07_value {p : PgV} {x : ItV} (hw : Sat G L w) (hp : p.Ok L) (hxo : x.Ok L) :
  Calls Tryz.prog 116 #[.agg p.cells.toArray, .agg x.cells.toArray] w (Ret fun r w' => r = .bool (decide (valErr p.kind x.it = 0)) ∧ Sat G L w') := by
 obtain ⟨a1, c1, a2, c2, h1, h2, hcl⟩ := hp.form hw
 obtain ⟨a3, c3, a4, c4, h3, h4, hxc⟩ := hxo.form hw
 rw [hcl, hxc]
 clear h1 h2 h3 h4
 refine calls_of_x (args := [_, _]) Tryz.func116 rfl Tryz.ntmps116 rfl rfl ?_
 refine z2 ?_
 refine x_box rfl rfl trivial rfl rfl hw rfl (fun w b2 hw => ?_)
 refine x_box rfl rfl trivial rfl rfl hw rfl (fun w b3 hw => ?_)
 refine z6 ?_
 refine lD one_int hw ?_
 refine z2 ?_
 refine x_if rfl (fun h1 => ?_) (fun h1 => ?_)
 ·
  refine z3 ?_
  refine lD one_sl_uint8 hw ?_
  refine z3 ?_
  refine xl_and (l1 := [5, 6, 7, 8]) (l2 := [9]) rfl (d := 16) (x.it.value.length = 0 ∧ x.it.size = 0) rfl ?_ ?_
  ·
   refine xl_split (d := 12) rfl (fun h2 => ?_) (fun h2 => ?_)
   ·
    refine z1 ?_
    refine lD one_int hw ?_
    refine z3 ?_
    refine cQ ?_
    exact dC
   refine z5 ?_
   refine cQ ?_
   exact dC
  refine z3 ?_
  exact end1 rfl rfl rfl ⟨congrArg Value.bool (by first | exact decide_eq_decide.2 (by unfold valErr; repeat' split; all_goals (try rw [fst_zero_iff]); all_goals (repeat rw [mst_zero (by decide)]); all_goals omega) | exact (decide_eq_false (by unfold valErr; repeat' split; all_goals (try rw [fst_zero_iff]); all_goals (repeat rw [mst_zero (by decide)]); all_goals omega)).symm), hw.tail.tail⟩
 refine z5 ?_
 refine lD one_int hw ?_
 refine z2 ?_
 refine xl_and (l1 := [4, 5, 6, 7]) (l2 := []) rfl (d := 24) (x.it.size < 0 ∨ 3840 < x.it.size) rfl ?_ ?_
 ·
  refine xl_split (d := 20) rfl (fun h3 => ?_) (fun h3 => ?_)
  ·
   refine z5 ?_
   refine cQ ?_
   exact dC
  refine z1 ?_
  refine lD one_int hw ?_
  refine z3 ?_
  refine cQ ?_
  exact dC
 refine xl_nil ?_
 refine x_if rfl (fun h4 => ?_) (fun h4 => ?_)
 ·
  refine z5 ?_
  exact end1 rfl rfl rfl ⟨congrArg Value.bool (by first | exact decide_eq_decide.2 (by unfold valErr; repeat' split; all_goals (try rw [fst_zero_iff]); all_goals (repeat rw [mst_zero (by decide)]); all_goals omega) | exact (decide_eq_false (by unfold valErr; repeat' split; all_goals (try rw [fst_zero_iff]); all_goals (repeat rw [mst_zero (by decide)]); all_goals omega)).symm), hw.tail.tail⟩
 refine z5 ?_
 refine lD one_int hw ?_
 refine z2 ?_
 refine x_if rfl (fun h5 => ?_) (fun h5 => ?_)
 ·
  refine z3 ?_
  refine lD one_sl_uint8 hw ?_
  refine z2 ?_
  refine lD one_int hw ?_
  refine z4 ?_
  exact end1 rfl rfl rfl ⟨congrArg Value.bool (by first | exact decide_eq_decide.2 (by unfold valErr; repeat' split; all_goals (try rw [fst_zero_iff]); all_goals (repeat rw [mst_zero (by decide)]); all_goals omega) | exact (decide_eq_false (by unfold valErr; repeat' split; all_goals (try rw [fst_zero_iff]); all_goals (repeat rw [mst_zero (by decide)]); all_goals omega)).symm), hw.tail.tail⟩
 refine z4 ?_
 refine lD one_sl_uint8 hw ?_
 refine z5 ?_
 exact end1 rfl rfl rfl ⟨congrArg Value.bool (by first | exact decide_eq_decide.2 (by unfold valErr; repeat' split; all_goals (try rw [fst_zero_iff]); all_goals (repeat rw [mst_zero (by decide)]); all_goals omega) | exact (decide_eq_false (by unfold valErr; repeat' split; all_goals (try rw [fst_zero_iff]); all_goals (repeat rw [mst_zero (by decide)]); all_goals omega)).symm), hw.tail.tail⟩
theorem ct_ref07_child {p : PgV} {x : ItV} (hw : Sat G L w) (hp : p.Ok L) (hxo : x.Ok L) (hk : p.kind = 1 ∨ p.kind = 2) :
  Calls Tryz.prog 117 #[.agg p.cells.toArray, .agg x.cells.toArray] w (Ret fun r w' => r = .bool (decide (chlErr p.kind x.it = 0)) ∧ Sat G L w') := by
 obtain ⟨a1, c1, a2, c2, h1, h2, hcl⟩ := hp.form hw
 obtain ⟨a3, c3, a4, c4, h3, h4, hxc⟩ := hxo.form hw
 rw [hcl, hxc]
 clear h1 h2 h3 h4
 refine calls_of_x (args := [_, _]) Tryz.func117 rfl Tryz.ntmps117 rfl rfl ?_
 refine z2 ?_
 refine x_box rfl rfl trivial rfl rfl hw rfl (fun w b2 hw => ?_)
 refine x_box rfl rfl trivial rfl rfl hw rfl (fun w b3 hw => ?_)
 refine z6 ?_
 refine lD one_int hw ?_
 refine z2 ?_
 refine xl_and (l1 := [4, 5, 6, 7]) (l2 := []) rfl (d := 12) (p.kind = 1 ∧ x.it.size ≤ 32) rfl ?_ ?_
 ·
  refine xl_split (d := 8) rfl (fun h1 => ?_) (fun h1 => ?_)
  ·
   refine z1 ?_
   refine lD one_int hw ?_
   refine z3 ?_
   refine cQ ?_
   exact dC
  refine z5 ?_
  refine cQ ?_
  exact dC
 refine xl_nil ?_
 refine x_if rfl (fun h2 => ?_) (fun h2 => ?_)
 ·
  refine z3 ?_
  refine lD one_int hw ?_
  refine z4 ?_
  exact end1 rfl rfl rfl ⟨congrArg Value.bool (decide_eq_decide.2 (by
 have e1 : chlErr p.kind x.it = mst (x.it.child = 0) 15 := by unfold chlErr; rw [if_neg (by omega), if_pos h2.2]
 rw [e1, mst_zero (by decide)])), hw.tail.tail⟩
 refine z4 ?_
 refine lD one_int hw ?_
 refine x_call rfl rfl trivial cal_ref07_IsPage rfl (ct_ref07_IsPage hw) rfl (fun w v18 hv => ?_)
 obtain ⟨rfl, hw⟩ := hv
 refine z3 ?_
 exact end1 rfl rfl rfl ⟨congrArg Value.bool (decide_eq_decide.2 (by
 have e1 : chlErr p.kind x.it = mst (isPageP x.it.child) 15 := by
  unfold chlErr
  by_cases h9 : p.kind = 2
  ·rw [if_pos h9]
  ·rw [if_neg h9, if_neg (by omega)]
 rw [e1, mst_zero (by decide)])), hw.tail.tail⟩
theorem ct_page_Kids {p : PgV} (hw : Sat G L w) (hp : p.Ok L) :
  Calls Tryz.prog 106 #[.agg p.cells.toArray] w (Ret fun r w' => Sat G (row 3 1 r (kidsP p.pg).length (ints (kidsP p.pg)) :: L) w') := by
 have hln := hp.its.len
 have hits := hp.its
 have hsl := hp.its.sl
 obtain ⟨a1, c1, a2, c2, h1, h2, hcl⟩ := hp.form hw
 rw [h1] at hsl
 rw [hcl]
 clear h1 h2
 refine calls_of_x (args := [_]) Tryz.func106 rfl Tryz.ntmps106 rfl rfl ?_
 refine z2 ?_
 refine x_box rfl rfl trivial rfl rfl hw rfl (fun w b1 hw => ?_)
 refine z10 ?_
 refine lD one_sl_api_Item hw ?_
 refine z4 ?_
 have hw := row_nil hw 3 1
 refine x_loop (fun m e w => ∃ (k : Nat) (u : Value), k ≤ p.l.length ∧ m = p.l.length - k ∧ e = [(1, .pointer (some ⟨b1, 0, none⟩)), (3, u), (7, .slice a1 p.l.length c1), (8, .int .i64 p.l.length), (9, .int .i64 k)] ∧ Sat G (row 3 1 u (kidsI p.kind ((p.l.map ItV.it).take k)).length (ints (kidsI p.kind ((p.l.map ItV.it).take k))) :: blk b1 [.int .i64 p.kind, .int .i64 p.level, .slice a1 p.l.length c1, .slice a2 p.data.length c2, .int .i64 p.next] 75 :: L) w)
  (m := p.l.length) (e₀ := [(1, .pointer (some ⟨b1, 0, none⟩)), (3, .slice none 0 0), (7, .slice a1 p.l.length c1), (8, .int .i64 p.l.length), (9, .int .i64 (0 : Nat))]) sB
  ⟨0, _, Nat.zero_le _, rfl, rfl, hw⟩ ?_
 rintro m e w ⟨k, u, hk, rfl, rfl, hw⟩
 refine z5 ?_
 refine x_if rfl (fun h1 => ?_) (fun h1 => ?_)
 ·
  have hk' : k < p.l.length := by omega
  obtain ⟨x, hx⟩ : ∃ x, p.l[k]? = some x := ⟨_, List.getElem?_eq_getElem hk'⟩
  have hxo := hits.it x (List.mem_of_getElem? hx)
  have hxr : (p.l.map ItV.cells)[k]? = some x.cells := by rw [List.getElem?_map, hx]; rfl
  obtain ⟨b, o, rfl⟩ := ((hsl.of sF).at hw).nn (by rw [List.length_map]; omega)
  have hkl : (kidsI p.kind ((p.l.map ItV.it).take k)).length ≤ k := Nat.le_trans (kidsI_len _ _) (by rw [List.length_take]; omega)
  have hE1 := kidsI_snoc p.kind ((p.l.map ItV.it).take k) x.it
  rw [← take_snoc hx] at hE1
  refine z5 ?_
  refine x_idx rfl rfl trivial U_sl_api_Item sz_api_Item rfl rfl ⟨by omega, by omega⟩ ?_
  refine x_ld rfl rfl trivial rfl (Loads.many many_api_Item rfl (by rw [Int.toNat_natCast]; exact ((hsl.of sF).at hw).at hxr)) ?_
  refine x_alloc rfl rfl trivial z_api_Item hw rfl (fun w b5 hw => ?_)
  refine x_stN (cs := x.cells) (l' := x.cells) rfl trivial rfl rfl many_api_Item rfl (ones_cells (hxo.of sF) hw) hw pK (by simp) rfl rfl (fun w hw => ?_)
  refine z4 ?_
  refine lD one_int hw ?_
  refine z2 ?_
  refine xl_and (l1 := [4, 5, 6, 7, 8, 9, 10, 11, 12]) (l2 := []) rfl (d := 25) (p.kind = 2 ∨ (p.kind = 1 ∧ x.it.child ≠ 0)) rfl ?_ ?_
  ·
   refine xl_split (d := 16) rfl (fun h2 => ?_) (fun h2 => ?_)
   ·
    refine z10 ?_
    refine cQ ?_
    exact dC
   refine z1 ?_
   refine lD one_int hw ?_
   refine z2 ?_
   refine xl_split (d := 20) rfl (fun h3 => ?_) (fun h3 => ?_)
   ·
    refine z1 ?_
    refine lD one_int hw ?_
    refine z1 ?_
    refine x_pickT rfl rfl ⟨_, rfl, rfl⟩ rfl rfl rfl ?_
    refine z2 ?_
    refine cQ ?_
    exact dC
   refine z3 ?_
   refine x_pickF rfl rfl ⟨_, rfl, rfl⟩ rfl rfl rfl ?_
   refine z2 ?_
   refine cQ ?_
   exact dC
  refine xl_nil ?_
  refine x_if rfl (fun h4 => ?_) (fun h4 => ?_)
  ·
   refine z3 ?_
   refine lD one_int hw ?_
   refine x_bs1 (cs := [.int .i64 x.it.child]) rfl rfl trivial U_sl_int sz_int zs_int (by decide) rfl rfl rfl hw rfl (fun w b29 hw => ?_)
   refine x_app (m := (kidsI p.kind ((p.l.map ItV.it).take k)).length) (k := 1) (news := [.int .i64 x.it.child]) rfl rfl trivial U_sl_int sz_int by_int zs_int rfl rfl hw pK (Rd.blk0 hw pK) rfl (by intro z hz; simp at hz; subst hz; rfl) (by simp only [maxLen]; omega) (by omega) rfl (fun w v30 hw => ?_)
   refine z6 ?_
   refine ⟨p.l.length - (k + 1), by omega, [(1, _), (3, _), (7, _), (8, _), (9, .int .i64 (k + 1 : Nat))], sB, k + 1, _, by omega, rfl, rfl, ?_⟩
   rw [hE1, if_pos h4, ints_snoc, List.length_append, List.length_singleton]
   exact (hw.b [blk b29 _ _, blk b5 _ _, row 3 1 v30 _ _, blk b1 _ _]).tail.tail
  refine z5 ?_
  refine ⟨p.l.length - (k + 1), by omega, [(1, _), (3, _), (7, _), (8, _), (9, .int .i64 (k + 1 : Nat))], sB, k + 1, _, by omega, rfl, rfl, ?_⟩
  rw [hE1, if_neg h4, List.append_nil]
  exact (hw.b [blk b5 _ _, row 3 1 u _ _, blk b1 _ _]).tail
 rw [take_all (by omega)] at hw
 have hkl : (kidsI p.kind (p.l.map ItV.it)).length ≤ p.l.length := Nat.le_trans (kidsI_len _ _) (by rw [List.length_map]; omega)
 refine z5 ?_
 refine lD one_int hw ?_
 refine z2 ?_
 refine xl_and (l1 := [4, 5, 6, 7]) (l2 := []) rfl (d := 39) (p.kind = 3 ∧ p.next ≠ 0) rfl ?_ ?_
 ·
  refine xl_split (d := 35) rfl (fun h5 => ?_) (fun h5 => ?_)
  ·
   refine z1 ?_
   refine lD one_int hw ?_
   refine z3 ?_
   refine cQ ?_
   exact dC
  refine z5 ?_
  refine cQ ?_
  exact dC
 refine xl_nil ?_
 refine x_if rfl (fun h6 => ?_) (fun h6 => ?_)
 ·
  refine z3 ?_
  refine lD one_int hw ?_
  refine x_bs1 (cs := [.int .i64 p.next]) rfl rfl trivial U_sl_int sz_int zs_int (by decide) rfl rfl rfl hw rfl (fun w b43 hw => ?_)
  refine x_app (m := (kidsI p.kind (p.l.map ItV.it)).length) (k := 1) (news := [.int .i64 p.next]) rfl rfl trivial U_sl_int sz_int by_int zs_int rfl rfl hw pK (Rd.blk0 hw pK) rfl (by intro z hz; simp at hz; subst hz; rfl) (by simp only [maxLen]; omega) (by omega) rfl (fun w v44 hw => ?_)
  refine z8 ?_
  exact end1 rfl rfl rfl (by
 rw [kidsP_pg, if_pos h6, ints_snoc, List.length_append, List.length_singleton]
 exact (hw.b [blk b43 _ _, blk b1 _ _, row 3 1 v44 _ _]).tail.tail)
 refine z7 ?_
 exact end1 rfl rfl rfl (by
 rw [kidsP_pg, if_neg h6, List.append_nil]
 exact (hw.b [blk b1 _ _, row 3 1 u _ _]).tail)
end
theorem val_or (kind : Int) (x : It) : valErr kind x = 0 ∨ valErr kind x = 8 := by
 have m : ∀ (q : Prop) [Decidable q], mst q 8 = 0 ∨ mst q 8 = 8 := fun q _ => by by_cases h : q; exact .inl (mst_yes h); exact .inr (mst_no h)
 have f : ∀ a b : Int, (a = 0 ∨ a = 8) → (b = 0 ∨ b = 8) → fst a b = 0 ∨ fst a b = 8 := fun a b ha hb => by
  rcases ha with rfl | rfl
  ·exact hb
  exact .inr (fst_eq 8 b (by decide))
 unfold valErr
 by_cases h : kind = 2
 ·rw [if_pos h]; exact m _
 rw [if_neg h]
 refine f _ _ (m _) ?_
 by_cases h : x.size ≤ 32
 ·rw [if_pos h]; exact m _
 rw [if_neg h]; exact m _
theorem lastKey_take {p : PgV} {k : Nat} {y : ItV} (h : 0 < k) (hy : p.l[k - 1]? = some y) : lastKey [] ((p.l.map ItV.it).take k) = y.it.key := by
 obtain ⟨j, rfl⟩ : ∃ j, k = j + 1 := ⟨k - 1, by omega⟩
 have hy' : p.l[j]? = some y := hy
 rw [take_snoc hy']
 exact lastKey_snoc _ _ _
theorem kind_pg {p : PgV} (h : formN p.kind p.level p.next p.l.length p.data.length) (h3 : 1 ≤ p.kind ∧ p.kind ≤ 3) (hl : 0 < p.l.length) : p.kind = 1 ∨ p.kind = 2 := by
 unfold formN at h
 omega
theorem next_pg {p : PgV} (h : formN p.kind p.level p.next p.l.length p.data.length) (h3 : 1 ≤ p.kind ∧ p.kind ≤ 3) (hn : ¬ p.kind = 3) : p.next = 0 := by
 unfold formN at h
 omega
theorem itsErr_step {p : PgV} {k : Nat} {x : ItV} (hx : p.l[k]? = some x) : itsErr p.kind 0 [] ((p.l.map ItV.it).take (k + 1)) = fst (itsErr p.kind 0 [] ((p.l.map ItV.it).take k)) (itErr p.kind k (lastKey [] ((p.l.map ItV.it).take k)) x.it) := by
 have hk : k < p.l.length := (List.getElem?_eq_some_iff.1 hx).1
 rw [take_snoc hx, itsErr_snoc, List.length_take, List.length_map, Nat.zero_add, Nat.min_eq_left (by omega)]
theorem itsErr_found {p : PgV} {k : Nat} {x : ItV} (hx : p.l[k]? = some x) (h0 : itsErr p.kind 0 [] ((p.l.map ItV.it).take k) = 0) (h : itErr p.kind k (lastKey [] ((p.l.map ItV.it).take k)) x.it ≠ 0) :
  itsErr p.kind 0 [] (p.l.map ItV.it) = itErr p.kind k (lastKey [] ((p.l.map ItV.it).take k)) x.it := by
 have app : ∀ (l r : List It) (i : Nat) (a : Bys), itsErr p.kind i a (l ++ r) = fst (itsErr p.kind i a l) (itsErr p.kind (i + l.length) (lastKey a l) r) := by
  intro l
  induction l with
  | nil => intro r i a; rfl
  | cons y l ih =>
   intro r i a
   simp only [List.cons_append, itsErr, ih, fst_assoc, List.length_cons]
   rw [show i + 1 + l.length = i + (l.length + 1) by omega]
   congr 3
   unfold lastKey
   cases l <;> simp [List.getLast?_cons]
 have e := itsErr_step hx
 rw [h0, zero_fst] at e
 have e2 := app ((p.l.map ItV.it).take (k + 1)) ((p.l.map ItV.it).drop (k + 1)) 0 []
 rw [List.take_append_drop, e, fst_eq _ _ h] at e2
 exact e2
section
variable {G : Gh} {L R : List Assn} {w : World}
theorem ct_ref07_Check {p : PgV} (hw : Sat G L w) (hp : p.Ok L) :
  Calls Tryz.prog 64 #[.agg p.cells.toArray] w (Ret fun r w' => r = .int .i64 (checkP p.pg) ∧ Sat G L w') := by
 have hln := hp.its.len
 have hits := hp.its
 have hsl := hp.its.sl
 obtain ⟨a1, c1, a2, c2, h1, h2, hcl⟩ := hp.form hw
 rw [h1] at hsl
 rw [hcl]
 clear h1 h2
 refine calls_of_x (args := [_]) Tryz.func64 rfl Tryz.ntmps64 rfl rfl ?_
 refine z2 ?_
 refine x_box rfl rfl trivial rfl rfl hw rfl (fun w b1 hw => ?_)
 refine z6 ?_
 refine lD one_int hw ?_
 refine z2 ?_
 refine xl_and (l1 := [4, 5, 6, 7]) (l2 := [8, 9, 10, 11, 12]) rfl (d := 11) (p.kind ≠ 1 ∧ p.kind ≠ 2) rfl ?_ ?_
 ·
  refine xl_split (d := 7) rfl (fun h1 => ?_) (fun h1 => ?_)
  ·
   refine z1 ?_
   refine lD one_int hw ?_
   refine z3 ?_
   refine cQ ?_
   exact dC
  refine z5 ?_
  refine cQ ?_
  exact dC
 refine z1 ?_
 refine xl_and (l1 := [9, 10, 11, 12]) (l2 := []) rfl (d := 16) (p.kind ≠ 1 ∧ p.kind ≠ 2 ∧ p.kind ≠ 3) rfl ?_ ?_
 ·
  refine xl_split (d := 12) rfl (fun h2 => ?_) (fun h2 => ?_)
  ·
   refine z1 ?_
   refine lD one_int hw ?_
   refine z3 ?_
   refine cQ ?_
   exact dC
  refine z5 ?_
  refine cQ ?_
  exact dC
 refine xl_nil ?_
 refine x_if rfl (fun h3 => ?_) (fun h3 => ?_)
 ·
  refine z5 ?_
  exact end1 rfl rfl rfl ⟨by rw [checkP_pg, mst_no (by omega)]; rfl, hw.tail⟩
 refine z4 ?_
 refine x_ld rfl rfl trivial rfl (Loads.blkA many_api_Page hw pK (by simp)) ?_
 refine x_call rfl rfl trivial cal_ref07_form rfl (by have h := ct_ref07_form (p := p) hw (hp.of sF) (by omega); rw [hcl] at h; exact h) rfl (fun w v18 hv => ?_)
 obtain ⟨rfl, hw⟩ := hv
 refine x_notp rfl rfl trivial rfl ?_
 refine xl_nil ?_
 refine x_if rfl (fun h4 => ?_) (fun h4 => ?_)
 ·
  refine z5 ?_
  exact end1 rfl rfl rfl ⟨by rw [checkP_pg, mst_yes (by omega), zero_fst, mst_no (by simpa using h4)]; rfl, hw.tail⟩
 refine z7 ?_
 have hk3 : 1 ≤ p.kind ∧ p.kind ≤ 3 := by omega
 have hform : formN p.kind p.level p.next p.l.length p.data.length := by simpa using h4
 have hck : checkP p.pg = fst (itsErr p.kind 0 [] (p.l.map ItV.it)) (mst (p.next = 0 ∨ isPageP p.next) 15) := by rw [checkP_pg, mst_yes hk3, mst_yes hform]; rfl
 rw [hck]
 refine x_loop (fun m e w => ∃ (k : Nat), k ≤ p.l.length ∧ m = p.l.length - k ∧ e = [(1, .pointer (some ⟨b1, 0, none⟩)), (3, .int .i64 k)] ∧ itsErr p.kind 0 [] ((p.l.map ItV.it).take k) = 0 ∧ Sat G (blk b1 [.int .i64 p.kind, .int .i64 p.level, .slice a1 p.l.length c1, .slice a2 p.data.length c2, .int .i64 p.next] 75 :: L) w)
  (m := p.l.length) (e₀ := [(1, .pointer (some ⟨b1, 0, none⟩)), (3, .int .i64 (0 : Nat))]) sB
  ⟨0, Nat.zero_le _, rfl, rfl, rfl, hw⟩ ?_
 rintro m e w ⟨k, hk, rfl, rfl, hE0, hw⟩
 refine z5 ?_
 refine lD one_sl_api_Item hw ?_
 refine z3 ?_
 refine x_if rfl (fun h5 => ?_) (fun h5 => ?_)
 ·
  have hk' : k < p.l.length := by omega
  have hk12 := kind_pg hform hk3 (by omega)
  obtain ⟨x, hx⟩ : ∃ x, p.l[k]? = some x := ⟨_, List.getElem?_eq_getElem hk'⟩
  obtain ⟨y, hy⟩ : ∃ y, p.l[k - 1]? = some y := ⟨_, List.getElem?_eq_getElem (by omega)⟩
  have hxo := hits.it x (List.mem_of_getElem? hx)
  have hyo := hits.it y (List.mem_of_getElem? hy)
  have hxk := hxo.k
  have hyk := hyo.k
  have hxr : (p.l.map ItV.cells)[k]? = some x.cells := by rw [List.getElem?_map, hx]; rfl
  have hyr : (p.l.map ItV.cells)[k - 1]? = some y.cells := by rw [List.getElem?_map, hy]; rfl
  obtain ⟨b, o, rfl⟩ := ((hsl.of sF).at hw).nn (by rw [List.length_map]; omega)
  have hfound := itsErr_found hx hE0
  have hst := itsErr_step hx
  rw [hE0, zero_fst] at hst
  have hord : ordErr p.kind k (lastKey [] ((p.l.map ItV.it).take k)) x.it = if 0 < k ∧ cmpB x.it.key y.it.key ≤ 0 then 11 else 0 := by
   unfold ordErr
   by_cases h0 : k = 0
   ·rw [mst_yes (.inl h0), if_neg (show ¬ (0 < k ∧ cmpB x.it.key y.it.key ≤ 0) from fun h => by omega)]; split <;> rfl
   rw [lastKey_take (by omega) hy, if_neg (fun h => h0 h.2)]
   by_cases hc : cmpB x.it.key y.it.key ≤ 0
   ·rw [mst_no (fun h => by omega), if_pos ⟨by omega, hc⟩]
   rw [mst_yes (.inr (by omega)), if_neg (fun h => hc h.2)]
  unfold itErr at hfound hst
  rw [hord] at hfound hst
  refine z6 ?_
  refine x_ld rfl rfl trivial rfl (Loads.blkA many_api_Page hw pK (by simp)) ?_
  refine z1 ?_
  refine x_call rfl rfl trivial cal_ref07_key rfl (by have h := ct_ref07_key (p := p) (k := k) (x := x) hw (hp.of sF) hx; rw [hcl] at h; exact h) rfl (fun w v29 hv => ?_)
  obtain ⟨rfl, hw⟩ := hv
  refine x_notp rfl rfl trivial rfl ?_
  refine xl_nil ?_
  refine x_if rfl (fun h6 => ?_) (fun h6 => ?_)
  ·
   refine z5 ?_
   exact end1 rfl rfl rfl ⟨by
 have h6' : keyErr p.kind k x.it ≠ 0 := by simpa using h6
 have h7 : keyErr p.kind k x.it = 7 := by unfold keyErr mst at h6' ⊢; repeat' split <;> simp_all
 rw [hfound (by rw [fst_eq _ _ h6']; exact h6'), fst_eq _ _ h6', h7]; rfl, hw.tail⟩
  have h6' : keyErr p.kind k x.it = 0 := by simpa using h6
  rw [h6', zero_fst] at hfound hst
  refine z3 ?_
  refine x_draw [0, 1, 2, 3, 4, 5, 6, 7, 8, 9, 10, 11, 12, 13, 14, 15, 16, 17, 18] mixed (by kernel_rfl) ?_
  replace hw := hw.drawn (w.drawn + 1)
  refine z3 ?_
  refine xl_andM (l1 := [3, 4, 5, 6, 7, 8, 9, 10, 11, 12, 13, 14, 15, 16, 17, 18]) (l2 := []) rfl (d := 49) (0 < k ∧ cmpB x.it.key y.it.key ≤ 0) (fun w => Sat G (blk b1 [.int .i64 p.kind, .int .i64 p.level, .slice (some ⟨b, o, none⟩) p.l.length c1, .slice a2 p.data.length c2, .int .i64 p.next] 75 :: L) w) rfl ?_ ?_
  ·
   refine xl_split (d := 33) rfl (fun h7 => ?_) (fun h7 => ?_)
   ·
    refine z1 ?_
    refine lD one_sl_api_Item hw ?_
    refine z1 ?_
    refine x_idx rfl rfl ⟨_, rfl, rfl⟩ U_sl_api_Item sz_api_Item rfl rfl ⟨by omega, by omega⟩ ?_
    refine x_fldk rfl rfl ⟨_, rfl, rfl⟩ fo_api_Item_0 rfl ?_
    refine x_ld rfl rfl ⟨_, rfl, rfl⟩ rfl (Loads.one one_sl_uint8 (((hsl.of sF).at hw).cell hxr rfl)) ?_
    refine z1 ?_
    refine lD one_sl_api_Item hw ?_
    refine z1 ?_
    refine x_subi rfl rfl ⟨_, rfl, rfl⟩ rfl rfl (by omega) ?_
    refine x_idx rfl rfl ⟨_, rfl, rfl⟩ U_sl_api_Item sz_api_Item rfl rfl ⟨by omega, by omega⟩ ?_
    refine x_fldk rfl rfl ⟨_, rfl, rfl⟩ fo_api_Item_0 rfl ?_
    refine x_ld rfl rfl ⟨_, rfl, rfl⟩ rfl (Loads.one one_sl_uint8 (by rw [show ((k : Int) - 1).toNat = ((k - 1 : Nat) : Int).toNat by omega]; exact ((hsl.of sF).at hw).cell hyr rfl)) ?_
    refine x_call rfl rfl ⟨_, rfl, rfl⟩ cal_ref00_Compare rfl (ct_ref00_Compare hw (hxk.of sF) (hyk.of sF) hxo.sk hyo.sk) (by kernel_rfl) (fun w v47 hv => ?_)
    obtain ⟨rfl, hw⟩ := hv
    refine z3 ?_
    refine ⟨hw, congrArg some (congrArg Value.bool ?_)⟩
    exact dC
   refine z17 ?_
   refine ⟨hw, congrArg some (congrArg Value.bool ?_)⟩
   exact dC
  clear hw; intro w hw
  refine xl_nil ?_
  refine x_if rfl (fun h8 => ?_) (fun h8 => ?_)
  ·
   refine z5 ?_
   exact end1 rfl rfl rfl ⟨by
 rw [if_pos h8] at hfound
 rw [hfound (by rw [fst_eq 11 _ (by decide)]; decide), fst_eq 11 _ (by decide)]; rfl, hw.tail⟩
  rw [if_neg h8, zero_fst] at hfound hst
  refine z3 ?_
  refine x_draw [0, 1, 2, 3, 4, 5, 6, 7] mixed (by kernel_rfl) ?_
  replace hw := hw.drawn (w.drawn + 1)
  refine x_ld rfl rfl trivial rfl (Loads.blkA many_api_Page hw pK (by simp)) ?_
  refine z1 ?_
  refine lD one_sl_api_Item hw ?_
  refine z1 ?_
  refine x_idx rfl rfl trivial U_sl_api_Item sz_api_Item rfl rfl ⟨by omega, by omega⟩ ?_
  refine x_ld rfl rfl trivial rfl (Loads.many many_api_Item rfl (by rw [Int.toNat_natCast]; exact ((hsl.of sF).at hw).at hxr)) ?_
  refine x_call rfl rfl trivial cal_ref07_value rfl (by have h := ct_ref07_value (p := p) (x := x) hw (hp.of sF) (hxo.of sF); rw [hcl] at h; exact h) (by kernel_rfl) (fun w v56 hv => ?_)
  obtain ⟨rfl, hw⟩ := hv
  refine x_notp rfl rfl trivial rfl ?_
  refine xl_nil ?_
  refine x_if rfl (fun h9 => ?_) (fun h9 => ?_)
  ·
   refine z5 ?_
   exact end1 rfl rfl rfl ⟨by
 have h9' : valErr p.kind x.it ≠ 0 := by simpa using h9
 have h7 := (val_or p.kind x.it).resolve_left h9'
 rw [hfound (by rw [fst_eq _ _ h9']; exact h9'), fst_eq _ _ h9', h7]; rfl, hw.tail⟩
  have h9' : valErr p.kind x.it = 0 := by simpa using h9
  rw [h9', zero_fst] at hfound hst
  refine z2 ?_
  refine x_draw [0, 1, 2, 3, 4, 5, 6, 7] mixed (by kernel_rfl) ?_
  replace hw := hw.drawn (w.drawn + 1)
  refine x_ld rfl rfl trivial rfl (Loads.blkA many_api_Page hw pK (by simp)) ?_
  refine z1 ?_
  refine lD one_sl_api_Item hw ?_
  refine z1 ?_
  refine x_idx rfl rfl trivial U_sl_api_Item sz_api_Item rfl rfl ⟨by omega, by omega⟩ ?_
  refine x_ld rfl rfl trivial rfl (Loads.many many_api_Item rfl (by rw [Int.toNat_natCast]; exact ((hsl.of sF).at hw).at hxr)) ?_
  refine x_call rfl rfl trivial cal_ref07_child rfl (by have h := ct_ref07_child (p := p) (x := x) hw (hp.of sF) (hxo.of sF) hk12; rw [hcl] at h; exact h) (by kernel_rfl) (fun w v64 hv => ?_)
  obtain ⟨rfl, hw⟩ := hv
  refine x_notp rfl rfl trivial rfl ?_
  refine xl_nil ?_
  refine x_if rfl (fun h10 => ?_) (fun h10 => ?_)
  ·
   refine z5 ?_
   exact end1 rfl rfl rfl ⟨by
 have h10' : chlErr p.kind x.it ≠ 0 := by simpa using h10
 have h7 : chlErr p.kind x.it = 15 := by unfold chlErr mst at h10' ⊢; repeat' split <;> simp_all
 rw [hfound h10', h7]; rfl, hw.tail⟩
  refine z6 ?_
  exact ⟨p.l.length - (k + 1), by omega, [(1, _), (3, .int .i64 (k + 1 : Nat))], sB, k + 1, by omega, rfl, rfl, by rw [hst]; simpa using h10, hw⟩
 rw [take_all (by omega)] at hE0
 rw [hE0, zero_fst]
 refine z5 ?_
 refine lD one_int hw ?_
 refine z2 ?_
 refine xl_and (l1 := [4, 5, 6, 7]) (l2 := [8, 9, 10, 11, 12, 13]) rfl (d := 73) (p.kind = 3 ∧ p.next ≠ 0) rfl ?_ ?_
 ·
  refine xl_split (d := 69) rfl (fun h11 => ?_) (fun h11 => ?_)
  ·
   refine z1 ?_
   refine lD one_int hw ?_
   refine z3 ?_
   refine cQ ?_
   exact dC
  refine z5 ?_
  refine cQ ?_
  exact dC
 refine z1 ?_
 refine xl_andM (l1 := [9, 10, 11, 12, 13]) (l2 := []) rfl (d := 79) (p.kind = 3 ∧ p.next ≠ 0 ∧ ¬ isPageP p.next) (fun w => Sat G (blk b1 [.int .i64 p.kind, .int .i64 p.level, .slice a1 p.l.length c1, .slice a2 p.data.length c2, .int .i64 p.next] 75 :: L) w) rfl ?_ ?_
 ·
  refine xl_split (d := 74) rfl (fun h12 => ?_) (fun h12 => ?_)
  ·
   refine z1 ?_
   refine lD one_int hw ?_
   refine x_call rfl rfl ⟨_, rfl, rfl⟩ cal_ref07_IsPage rfl (ct_ref07_IsPage hw) rfl (fun w v77 hv => ?_)
   obtain ⟨rfl, hw⟩ := hv
   refine x_notp rfl rfl ⟨_, rfl, rfl⟩ rfl ?_
   refine z2 ?_
   refine ⟨hw, congrArg some (congrArg Value.bool ?_)⟩
   try rw [← decide_not]
   first | exact decide_eq_decide.2 ⟨fun h => ⟨by omega, by omega, h⟩, fun h => h.2.2⟩ | exact (decide_eq_false (by omega)).symm
  refine z6 ?_
  refine ⟨hw, congrArg some (congrArg Value.bool ?_)⟩
  try rw [← decide_not]
  first | exact decide_eq_decide.2 ⟨fun h => ⟨by omega, by omega, h⟩, fun h => h.2.2⟩ | exact (decide_eq_false (by omega)).symm
 clear hw; intro w hw
 refine xl_nil ?_
 refine x_if rfl (fun h13 => ?_) (fun h13 => ?_)
 ·
  refine z5 ?_
  exact end1 rfl rfl rfl ⟨by rw [mst_no (fun h => h.elim (fun h => absurd h h13.2.1) h13.2.2)], hw.tail⟩
 refine z6 ?_
 exact end1 rfl rfl rfl ⟨by
 rw [mst_yes (Decidable.byContradiction fun h => ?_)]
 have hn := next_pg hform hk3
 rw [not_or] at h
 exact h13 ⟨Decidable.byContradiction fun h3 => h.1 (hn h3), h.1, h.2⟩, hw.tail⟩
theorem ct_ref07_Kids {p : PgV} (hw : Sat G L w) (hp : p.Ok L) :
  Calls Tryz.prog 32 #[.agg p.cells.toArray] w (Ret fun r w' => Sat G (row 3 1 r (kidsP p.pg).length (ints (kidsP p.pg)) :: L) w') := by
 have hln := hp.its.len
 have hits := hp.its
 have hsl := hp.its.sl
 obtain ⟨a1, c1, a2, c2, h1, h2, hcl⟩ := hp.form hw
 rw [h1] at hsl
 rw [hcl]
 clear h1 h2
 refine calls_of_x (args := [_]) Tryz.func32 rfl Tryz.ntmps32 rfl rfl ?_
 refine z2 ?_
 refine x_box rfl rfl trivial rfl rfl hw rfl (fun w b1 hw => ?_)
 refine z4 ?_
 refine x_bs0 rfl rfl trivial U_sl_int sz_int hw rfl (fun w b5 hw => ?_)
 refine z8 ?_
 have hw := row_full (z := 1) (m := 0) hw rfl (by simp only [maxLen]; omega)
 refine x_loop (fun m e w => ∃ (k : Nat) (u : Value), k ≤ p.l.length ∧ m = p.l.length - k ∧ e = [(1, .pointer (some ⟨b1, 0, none⟩)), (3, u), (4, .int .i64 k)] ∧ Sat G (row 3 1 u (kidsI p.kind ((p.l.map ItV.it).take k)).length (ints (kidsI p.kind ((p.l.map ItV.it).take k))) :: blk b1 [.int .i64 p.kind, .int .i64 p.level, .slice a1 p.l.length c1, .slice a2 p.data.length c2, .int .i64 p.next] 75 :: L) w)
  (m := p.l.length) (e₀ := [(1, .pointer (some ⟨b1, 0, none⟩)), (3, .slice (some ⟨b5, 0, none⟩) 0 0), (4, .int .i64 (0 : Nat))]) sB
  ⟨0, _, Nat.zero_le _, rfl, rfl, hw⟩ ?_
 rintro m e w ⟨k, u, hk, rfl, rfl, hw⟩
 refine z5 ?_
 refine lD one_sl_api_Item hw ?_
 refine z3 ?_
 refine x_if rfl (fun h1 => ?_) (fun h1 => ?_)
 ·
  have hk' : k < p.l.length := by omega
  obtain ⟨x, hx⟩ : ∃ x, p.l[k]? = some x := ⟨_, List.getElem?_eq_getElem hk'⟩
  have hxr : (p.l.map ItV.cells)[k]? = some x.cells := by rw [List.getElem?_map, hx]; rfl
  obtain ⟨b, o, rfl⟩ := ((hsl.of sF).at hw).nn (by rw [List.length_map]; omega)
  have hkl : (kidsI p.kind ((p.l.map ItV.it).take k)).length ≤ k := Nat.le_trans (kidsI_len _ _) (by rw [List.length_take]; omega)
  have hE1 := kidsI_snoc p.kind ((p.l.map ItV.it).take k) x.it
  rw [← take_snoc hx] at hE1
  refine z6 ?_
  refine lD one_int hw ?_
  refine z2 ?_
  refine xl_and (l1 := [4, 5, 6, 7, 8, 9, 10, 11, 12, 13, 14, 15, 16]) (l2 := []) rfl (d := 29) (p.kind = 2 ∨ (p.kind = 1 ∧ x.it.child ≠ 0)) rfl ?_ ?_
  ·
   refine xl_split (d := 16) rfl (fun h2 => ?_) (fun h2 => ?_)
   ·
    refine z14 ?_
    refine cQ ?_
    exact dC
   refine z1 ?_
   refine lD one_int hw ?_
   refine z2 ?_
   refine xl_split (d := 20) rfl (fun h3 => ?_) (fun h3 => ?_)
   ·
    refine z1 ?_
    refine lD one_sl_api_Item hw ?_
    refine z1 ?_
    refine x_idx rfl rfl ⟨_, rfl, rfl⟩ U_sl_api_Item sz_api_Item rfl rfl ⟨by omega, by omega⟩ ?_
    refine x_fldk rfl rfl ⟨_, rfl, rfl⟩ fo_api_Item_2 rfl ?_
    refine x_ld rfl rfl ⟨_, rfl, rfl⟩ rfl (Loads.one one_int (((hsl.of sF).at hw).cell hxr rfl)) ?_
    refine z1 ?_
    refine x_pickT rfl rfl ⟨_, rfl, rfl⟩ rfl rfl rfl ?_
    refine z2 ?_
    refine cQ ?_
    exact dC
   refine z7 ?_
   refine x_pickF rfl rfl ⟨_, rfl, rfl⟩ rfl rfl rfl ?_
   refine z2 ?_
   refine cQ ?_
   exact dC
  refine xl_nil ?_
  refine x_if rfl (fun h4 => ?_) (fun h4 => ?_)
  ·
   refine z3 ?_
   refine lD one_sl_api_Item hw ?_
   refine z1 ?_
   refine x_idx rfl rfl trivial U_sl_api_Item sz_api_Item rfl rfl ⟨by omega, by omega⟩ ?_
   refine x_fldk rfl rfl trivial fo_api_Item_2 rfl ?_
   refine x_ld rfl rfl trivial rfl (Loads.one one_int (((hsl.of sF).at hw).cell hxr rfl)) ?_
   refine x_bs1 (cs := [.int .i64 x.it.child]) rfl rfl trivial U_sl_int sz_int zs_int (by decide) rfl rfl rfl hw rfl (fun w b37 hw => ?_)
   refine x_app (m := (kidsI p.kind ((p.l.map ItV.it).take k)).length) (k := 1) (news := [.int .i64 x.it.child]) rfl rfl trivial U_sl_int sz_int by_int zs_int rfl rfl hw pK (Rd.blk0 hw pK) rfl (by intro z hz; simp at hz; subst hz; rfl) (by simp only [maxLen]; omega) (by omega) rfl (fun w v38 hw => ?_)
   refine z7 ?_
   refine ⟨p.l.length - (k + 1), by omega, [(1, _), (3, _), (4, .int .i64 (k + 1 : Nat))], sB, k + 1, _, by omega, rfl, rfl, ?_⟩
   rw [hE1, if_pos h4, ints_snoc, List.length_append, List.length_singleton]
   exact (hw.b [blk b37 _ _, row 3 1 v38 _ _, blk b1 _ _]).tail
  refine z6 ?_
  refine ⟨p.l.length - (k + 1), by omega, [(1, _), (3, _), (4, .int .i64 (k + 1 : Nat))], sB, k + 1, _, by omega, rfl, rfl, ?_⟩
  rw [hE1, if_neg h4, List.append_nil]
  exact hw
 rw [take_all (by omega)] at hw
 have hkl : (kidsI p.kind (p.l.map ItV.it)).length ≤ p.l.length := Nat.le_trans (kidsI_len _ _) (by rw [List.length_map]; omega)
 refine z5 ?_
 refine lD one_int hw ?_
 refine z2 ?_
 refine xl_and (l1 := [4, 5, 6, 7]) (l2 := []) rfl (d := 46) (p.kind = 3 ∧ p.next ≠ 0) rfl ?_ ?_
 ·
  refine xl_split (d := 42) rfl (fun h5 => ?_) (fun h5 => ?_)
  ·
   refine z1 ?_
   refine lD one_int hw ?_
   refine z3 ?_
   refine cQ ?_
   exact dC
  refine z5 ?_
  refine cQ ?_
  exact dC
 refine xl_nil ?_
 refine x_if rfl (fun h6 => ?_) (fun h6 => ?_)
 ·
  refine z3 ?_
  refine lD one_int hw ?_
  refine x_bs1 (cs := [.int .i64 p.next]) rfl rfl trivial U_sl_int sz_int zs_int (by decide) rfl rfl rfl hw rfl (fun w b50 hw => ?_)
  refine x_app (m := (kidsI p.kind (p.l.map ItV.it)).length) (k := 1) (news := [.int .i64 p.next]) rfl rfl trivial U_sl_int sz_int by_int zs_int rfl rfl hw pK (Rd.blk0 hw pK) rfl (by intro z hz; simp at hz; subst hz; rfl) (by simp only [maxLen]; omega) (by omega) rfl (fun w v51 hw => ?_)
  refine z8 ?_
  exact end1 rfl rfl rfl (by
 rw [kidsP_pg, if_pos h6, ints_snoc, List.length_append, List.length_singleton]
 exact (hw.b [blk b50 _ _, blk b1 _ _, row 3 1 v51 _ _]).tail.tail)
 refine z7 ?_
 exact end1 rfl rfl rfl (by
 rw [kidsP_pg, if_neg h6, List.append_nil]
 exact (hw.b [blk b1 _ _, row 3 1 u _ _]).tail)
end
section
variable {P : Program} {n : Nat} {ops : Array Oper} {dr : Bool} {done r : List Nat} {K : Env → World → Prop} {e : Env} {w : World} {i d : Nat} {t s s' c : TypeId} {p : String} {af : Array Edge} {g : Option (Nat × Bool)} {x y : Operand} {G : Gh} {L R : List Assn} {T : TypeId}
theorem x_cpB {b o dl dc : Nat} {v : Value} {l : Bys} {cur l' : List Value} (ho : ops[i]? = some ⟨some d, .call ⟨.builtin .copy, #[x, y], #[s, s']⟩, t, p, af, g⟩) (hd : Nat.blt d n = true) (hg : Gd ops e g) (hs : P.underlying s = some (.slice c)) (hzc : (P.info? c).map (·.size) = some 1)
  (hx : ev e x = some (.slice (some ⟨b, o, none⟩) dl dc)) (hy : ev e y = some v) (hw : Sat G L w) (hp : Pick (blk b cur T) L R) (hr : SlB v l w) (hl : l.length ≤ dl) (hfit : o + l.length ≤ cur.length)
  (hl' : cur.take o ++ bys l ++ cur.drop (o + l.length) = l') (hpd : pend P ops dr done i = [])
  (h : ∀ w', Sat G (blk b l' T :: R) w' → XL P n ops dr (i :: done) r K ((d, .int .i64 l.length) :: e) w') : XL P n ops dr done (i :: r) K e w := by
 rcases hr with ⟨⟨a, rfl⟩, rfl⟩ | ⟨b', o', cap, rfl, hc, hR⟩
 ·have hl2 : l' = cur := by rw [← hl']; show cur.take o ++ [] ++ cur.drop (o + 0) = cur; simp
  subst hl2
  have hrr := run_copy_none (P := P) w s s' t c (some ⟨b, o, none⟩) a dl dc 0 0 hs hzc (Nat.zero_min _)
  refine xl_eff ho (by simpa [dstOk] using hd) hg (ρ := rh e) (by intro z hZ; simp [Op.operands, Call.operands] at hZ; exact oh2 hx hy hZ) rfl (v := .int .i64 0) (w' := w) ?_ (noPend hpd) (h _ (hw.pick hp))
  simp only [execOp, resolve, invoke, builtin, Sem.run_bind, Sem.run_pure, Result.andThen_ok, List.map_toArray, List.map_cons, List.map_nil, rh_of hx, rh_of hy, hrr]
  rfl
 have hb : (bys l).length = l.length := bys_length l
 refine x_cp (cs := bys l) (l' := l') ho hd hg hs hzc hx hy hw hp hR (by rw [hb]; exact (Nat.min_eq_left hl).symm) (ones_bys _) (by rw [hb]; exact hfit) (by rw [hb]; exact hl') hpd (fun w' hw' => ?_)
 rw [hb]
 exact h w' hw'
end
structure Rg where
 lo : Bys
 hi : Bys
 opn : Bool
structure RgV where
 rg : Rg
 lv : Value
 hv : Value
def RgV.cells (r : RgV) : List Value := [r.lv, r.hv, .bool r.rg.opn]
structure RgV.Ok (L : List Assn) (r : RgV) : Prop where
 lo : Knows L (SlB r.lv r.rg.lo)
 hi : Knows L (SlB r.hv r.rg.hi)
 sl : Small r.rg.lo
 sh : Small r.rg.hi
theorem RgV.Ok.of {L L' : List Assn} {r : RgV} (h : r.Ok L) (s : Suf L L') : r.Ok L' := ⟨h.lo.of s, h.hi.of s, h.sl, h.sh⟩
def rgParts (r : RgV) : List Assn := [row 5 1 r.lv r.rg.lo.length (bys r.rg.lo), row 5 1 r.hv r.rg.hi.length (bys r.rg.hi)]
theorem rgParts_ok {r : RgV} {L R : List Assn} (h1 : Small r.rg.lo) (h2 : Small r.rg.hi) (p1 : Pick (row 5 1 r.lv r.rg.lo.length (bys r.rg.lo)) L R) {R' : List Assn} (p2 : Pick (row 5 1 r.hv r.rg.hi.length (bys r.rg.hi)) L R') : r.Ok L := ⟨rowB rfl p1, rowB rfl p2, h1, h2⟩
def isKeyP (k : Bys) : Prop := 1 ≤ k.length ∧ k.length ≤ 24
instance (k : Bys) : Decidable (isKeyP k) := by unfold isKeyP; infer_instance
def hasR (r : Rg) (k : Bys) : Prop := isKeyP k ∧ 0 ≤ cmpB k r.lo ∧ (r.opn = true ∨ cmpB k r.hi < 0)
instance (r : Rg) (k : Bys) : Decidable (hasR r k) := by unfold hasR; infer_instance
def maxB (a b : Bys) : Bys := if cmpB a b < 0 then b else a
def minB (a b : Bys) : Bys := if 0 < cmpB a b then b else a
def meetR (a b : Rg) : Rg := ⟨maxB a.lo b.lo, if a.opn = true then (if b.opn = true then [] else b.hi) else if b.opn = true then a.hi else minB a.hi b.hi, a.opn && b.opn⟩
theorem maxB_small {a b : Bys} (ha : Small a) (hb : Small b) : Small (maxB a b) := by unfold maxB; split <;> assumption
theorem minB_small {a b : Bys} (ha : Small a) (hb : Small b) : Small (minB a b) := by unfold minB; split <;> assumption
theorem small_nil : Small [] := Nat.zero_le _
theorem meet_small {a b : Rg} (h1 : Small a.lo) (h2 : Small a.hi) (h3 : Small b.lo) (h4 : Small b.hi) : Small (meetR a b).lo ∧ Small (meetR a b).hi := by
 refine ⟨maxB_small h1 h3, ?_⟩
 show Small (if a.opn = true then (if b.opn = true then [] else b.hi) else if b.opn = true then a.hi else minB a.hi b.hi)
 repeat' split
 all_goals first | exact small_nil | exact h4 | exact h2 | exact minB_small h2 h4
theorem bool_prop (b : Bool) : ∃ q : Prop, ∃ _ : Decidable q, b = decide q ∧ (b = true ↔ q) := ⟨b = true, inferInstance, by simp, Iff.rfl⟩
section
variable {G : Gh} {L R : List Assn} {w : World}
theorem ct_span_isKey {v : Value} {l : Bys} (hw : Sat G L w) (kl : Knows L (SlB v l)) : Calls Tryz.prog 171 #[v] w (Ret fun r w' => r = .bool (decide (isKeyP l)) ∧ Sat G L w') := by
 obtain ⟨a, cap, rfl⟩ := (kl.at hw).form
 refine calls_of_x (args := [_]) Tryz.func171 rfl Tryz.ntmps171 rfl rfl ?_
 refine z10 ?_
 refine xl_and (l1 := [4, 5, 6, 7]) (l2 := [8]) rfl (d := 10) (isKeyP l) rfl ?_ ?_
 ·
  refine xl_split (d := 6) rfl (fun h1 => ?_) (fun h1 => ?_)
  ·
   refine z5 ?_
   refine cQ ?_
   unfold isKeyP; exact dC
  refine z5 ?_
  refine cQ ?_
  unfold isKeyP; exact dC
 refine z3 ?_
 exact end1 rfl rfl rfl ⟨rfl, hw⟩
theorem ct_ref04_Key {v : Value} {l : Bys} (hw : Sat G L w) (kl : Knows L (SlB v l)) : Calls Tryz.prog 176 #[v] w (Ret fun r w' => r = .bool (decide (isKeyP l)) ∧ Sat G L w') := by
 obtain ⟨a, cap, rfl⟩ := (kl.at hw).form
 refine calls_of_x (args := [_]) Tryz.func176 rfl Tryz.ntmps176 rfl rfl ?_
 refine z10 ?_
 refine xl_and (l1 := [4, 5, 6, 7]) (l2 := [8]) rfl (d := 10) (isKeyP l) rfl ?_ ?_
 ·
  refine xl_split (d := 6) rfl (fun h1 => ?_) (fun h1 => ?_)
  ·
   refine z5 ?_
   refine cQ ?_
   unfold isKeyP; exact dC
  refine z5 ?_
  refine cQ ?_
  unfold isKeyP; exact dC
 refine z3 ?_
 exact end1 rfl rfl rfl ⟨rfl, hw⟩
theorem ct_span_Has {r : RgV} {v : Value} {k : Bys} (hw : Sat G L w) (hr : r.Ok L) (kl : Knows L (SlB v k)) :
  Calls Tryz.prog 139 #[.agg r.cells.toArray, v] w (Ret fun u w' => u = .bool (decide (hasR r.rg k)) ∧ Sat G L w') := by
 have hlo := hr.lo
 have hhi := hr.hi
 obtain ⟨q, dq, hq1, hq2⟩ := bool_prop r.rg.opn
 have hcl : r.cells = [r.lv, r.hv, .bool (decide q)] := by rw [← hq1]; rfl
 rw [hcl]
 refine calls_of_x (args := [_, _]) Tryz.func139 rfl Tryz.ntmps139 rfl rfl ?_
 refine z2 ?_
 refine x_box rfl rfl trivial rfl rfl hw rfl (fun w b2 hw => ?_)
 refine z5 ?_
 refine x_call rfl rfl trivial cal_span_isKey rfl (ct_span_isKey hw (kl.of sF)) rfl (fun w v6 hv => ?_)
 obtain ⟨rfl, hw⟩ := hv
 refine z1 ?_
 refine xl_andM (l1 := [3, 4, 5, 6, 7, 8]) (l2 := [9, 10, 11, 12, 13, 14, 15, 16, 17, 18, 19, 20]) rfl (d := 13) (isKeyP k ∧ 0 ≤ cmpB k r.rg.lo) (fun w => Sat G (blk b2 [r.lv, r.hv, .bool (decide q)] 64 :: L) w) rfl ?_ ?_
 ·
  refine xl_split (d := 7) rfl (fun h1 => ?_) (fun h1 => ?_)
  ·
   refine z2 ?_
   refine lD one_sl_uint8 hw ?_
   refine x_call rfl rfl ⟨_, rfl, rfl⟩ cal_bytes_Compare rfl (ct_bytes_Compare hw (kl.of sF) (hlo.of sF)) rfl (fun w v11 hv => ?_)
   obtain ⟨rfl, hw⟩ := hv
   refine z3 ?_
   refine ⟨hw, congrArg some (congrArg Value.bool ?_)⟩
   first | exact (decide_eq_false (fun h => h1 h.1)).symm | exact decide_eq_decide.2 ⟨fun h => ⟨h1, h⟩, fun h => h.2⟩
  refine z7 ?_
  refine ⟨hw, congrArg some (congrArg Value.bool ?_)⟩
  first | exact (decide_eq_false (fun h => h1 h.1)).symm | exact decide_eq_decide.2 ⟨fun h => ⟨h1, h⟩, fun h => h.2⟩
 clear hw; intro w hw
 refine z1 ?_
 refine xl_andM (l1 := [10, 11, 12, 13, 14, 15, 16, 17, 18, 19]) (l2 := [20]) rfl (d := 24) (hasR r.rg k) (fun w => Sat G (blk b2 [r.lv, r.hv, .bool (decide q)] 64 :: L) w) rfl ?_ ?_
 ·
  refine xl_split (d := 14) rfl (fun h2 => ?_) (fun h2 => ?_)
  ·
   refine z1 ?_
   refine lD one_bool hw ?_
   refine z1 ?_
   refine xl_split (d := 17) rfl (fun h3 => ?_) (fun h3 => ?_)
   ·
    refine z5 ?_
    refine x_pickT rfl rfl ⟨_, rfl, rfl⟩ rfl rfl rfl ?_
    refine z2 ?_
    refine ⟨hw, congrArg some (congrArg Value.bool ?_)⟩
    first | exact (decide_eq_true ⟨h2.1, h2.2, .inl (hq2.2 h3)⟩).symm | exact decide_eq_decide.2 ⟨fun h => ⟨h2.1, h2.2, .inr h⟩, fun h => h.2.2.resolve_left (fun h4 => h3 (hq2.1 h4))⟩ | exact (decide_eq_false (fun h => h2 ⟨h.1, h.2.1⟩)).symm
   refine z2 ?_
   refine lD one_sl_uint8 hw ?_
   refine x_call rfl rfl ⟨_, rfl, rfl⟩ cal_bytes_Compare rfl (ct_bytes_Compare hw (kl.of sF) (hhi.of sF)) rfl (fun w v21 hv => ?_)
   obtain ⟨rfl, hw⟩ := hv
   refine z1 ?_
   refine x_pickF rfl rfl ⟨_, rfl, rfl⟩ rfl rfl rfl ?_
   refine z2 ?_
   refine ⟨hw, congrArg some (congrArg Value.bool ?_)⟩
   first | exact (decide_eq_true ⟨h2.1, h2.2, .inl (hq2.2 h3)⟩).symm | exact decide_eq_decide.2 ⟨fun h => ⟨h2.1, h2.2, .inr h⟩, fun h => h.2.2.resolve_left (fun h4 => h3 (hq2.1 h4))⟩ | exact (decide_eq_false (fun h => h2 ⟨h.1, h.2.1⟩)).symm
  refine z11 ?_
  refine ⟨hw, congrArg some (congrArg Value.bool ?_)⟩
  first | exact (decide_eq_true ⟨h2.1, h2.2, .inl (hq2.2 h3)⟩).symm | exact decide_eq_decide.2 ⟨fun h => ⟨h2.1, h2.2, .inr h⟩, fun h => h.2.2.resolve_left (fun h4 => h3 (hq2.1 h4))⟩ | exact (decide_eq_false (fun h => h2 ⟨h.1, h.2.1⟩)).symm
 clear hw; intro w hw
 refine z3 ?_
 exact end1 rfl rfl rfl ⟨rfl, hw.tail⟩
theorem ct_ref04_Has {r : RgV} {v : Value} {k : Bys} (hw : Sat G L w) (hr : r.Ok L) (kl : Knows L (SlB v k)) (hks : Small k) :
  Calls Tryz.prog 154 #[.agg r.cells.toArray, v] w (Ret fun u w' => u = .bool (decide (hasR r.rg k)) ∧ Sat G L w') := by
 have hlo := hr.lo
 have hhi := hr.hi
 obtain ⟨q, dq, hq1, hq2⟩ := bool_prop r.rg.opn
 have hcl : r.cells = [r.lv, r.hv, .bool (decide q)] := by rw [← hq1]; rfl
 rw [hcl]
 refine calls_of_x (args := [_, _]) Tryz.func154 rfl Tryz.ntmps154 rfl rfl ?_
 refine z2 ?_
 refine x_box rfl rfl trivial rfl rfl hw rfl (fun w b2 hw => ?_)
 refine z5 ?_
 refine x_call rfl rfl trivial cal_ref04_Key rfl (ct_ref04_Key hw (kl.of sF)) rfl (fun w v6 hv => ?_)
 obtain ⟨rfl, hw⟩ := hv
 refine z1 ?_
 refine xl_andM (l1 := [3, 4, 5, 6, 7, 8]) (l2 := [9, 10, 11, 12, 13, 14, 15, 16, 17, 18, 19, 20]) rfl (d := 13) (isKeyP k ∧ 0 ≤ cmpB k r.rg.lo) (fun w => Sat G (blk b2 [r.lv, r.hv, .bool (decide q)] 64 :: L) w) rfl ?_ ?_
 ·
  refine xl_split (d := 7) rfl (fun h1 => ?_) (fun h1 => ?_)
  ·
   refine z2 ?_
   refine lD one_sl_uint8 hw ?_
   refine x_call rfl rfl ⟨_, rfl, rfl⟩ cal_ref00_Compare rfl (ct_ref00_Compare hw (kl.of sF) (hlo.of sF) hks hr.sl) rfl (fun w v11 hv => ?_)
   obtain ⟨rfl, hw⟩ := hv
   refine z3 ?_
   refine ⟨hw, congrArg some (congrArg Value.bool ?_)⟩
   first | exact (decide_eq_false (fun h => h1 h.1)).symm | exact decide_eq_decide.2 ⟨fun h => ⟨h1, h⟩, fun h => h.2⟩
  refine z7 ?_
  refine ⟨hw, congrArg some (congrArg Value.bool ?_)⟩
  first | exact (decide_eq_false (fun h => h1 h.1)).symm | exact decide_eq_decide.2 ⟨fun h => ⟨h1, h⟩, fun h => h.2⟩
 clear hw; intro w hw
 refine z1 ?_
 refine xl_andM (l1 := [10, 11, 12, 13, 14, 15, 16, 17, 18, 19]) (l2 := [20]) rfl (d := 24) (hasR r.rg k) (fun w => Sat G (blk b2 [r.lv, r.hv, .bool (decide q)] 64 :: L) w) rfl ?_ ?_
 ·
  refine xl_split (d := 14) rfl (fun h2 => ?_) (fun h2 => ?_)
  ·
   refine z1 ?_
   refine lD one_bool hw ?_
   refine z1 ?_
   refine xl_split (d := 17) rfl (fun h3 => ?_) (fun h3 => ?_)
   ·
    refine z5 ?_
    refine x_pickT rfl rfl ⟨_, rfl, rfl⟩ rfl rfl rfl ?_
    refine z2 ?_
    refine ⟨hw, congrArg some (congrArg Value.bool ?_)⟩
    first | exact (decide_eq_true ⟨h2.1, h2.2, .inl (hq2.2 h3)⟩).symm | exact decide_eq_decide.2 ⟨fun h => ⟨h2.1, h2.2, .inr h⟩, fun h => h.2.2.resolve_left (fun h4 => h3 (hq2.1 h4))⟩ | exact (decide_eq_false (fun h => h2 ⟨h.1, h.2.1⟩)).symm
   refine z2 ?_
   refine lD one_sl_uint8 hw ?_
   refine x_call rfl rfl ⟨_, rfl, rfl⟩ cal_ref00_Compare rfl (ct_ref00_Compare hw (kl.of sF) (hhi.of sF) hks hr.sh) rfl (fun w v21 hv => ?_)
   obtain ⟨rfl, hw⟩ := hv
   refine z1 ?_
   refine x_pickF rfl rfl ⟨_, rfl, rfl⟩ rfl rfl rfl ?_
   refine z2 ?_
   refine ⟨hw, congrArg some (congrArg Value.bool ?_)⟩
   first | exact (decide_eq_true ⟨h2.1, h2.2, .inl (hq2.2 h3)⟩).symm | exact decide_eq_decide.2 ⟨fun h => ⟨h2.1, h2.2, .inr h⟩, fun h => h.2.2.resolve_left (fun h4 => h3 (hq2.1 h4))⟩ | exact (decide_eq_false (fun h => h2 ⟨h.1, h.2.1⟩)).symm
  refine z11 ?_
  refine ⟨hw, congrArg some (congrArg Value.bool ?_)⟩
  first | exact (decide_eq_true ⟨h2.1, h2.2, .inl (hq2.2 h3)⟩).symm | exact decide_eq_decide.2 ⟨fun h => ⟨h2.1, h2.2, .inr h⟩, fun h => h.2.2.resolve_left (fun h4 => h3 (hq2.1 h4))⟩ | exact (decide_eq_false (fun h => h2 ⟨h.1, h.2.1⟩)).symm
 clear hw; intro w hw
 refine z3 ?_
 exact end1 rfl rfl rfl ⟨rfl, hw.tail⟩
theorem ct_span_fresh {v : Value} {l : Bys} {m : Nat} (hw : Sat G L w) (kl : Knows L (SlB v l)) (hs : Small l) (hm : m ≤ 64) : Calls Tryz.prog 152 #[v, .int .i64 m] w (Ret fun r w' => Sat G (row 5 1 r l.length (bys l) :: L) w') := by
 obtain ⟨a, cap, rfl⟩ := (kl.at hw).form
 unfold Small at hs
 refine calls_of_x (args := [_, _]) Tryz.func152 rfl Tryz.ntmps152 rfl rfl ?_
 refine z12 ?_
 refine x_mks rfl rfl trivial U_sl_uint8 sz_uint8 by_uint8 z_uint8 rfl rfl ⟨by omega, by omega⟩ (by omega) (by omega) hw rfl (fun w b12 hw => ?_)
 refine z6 ?_
 refine x_cpB (l := l) rfl rfl trivial U_sl_uint8 sz_uint8 rfl rfl hw pK ((kl.of sF).at hw) (by simp) (by simp [rep_length]; omega) rfl rfl (fun w hw => ?_)
 refine z7 ?_
 exact end1 rfl rfl rfl (row_mk (xs := bys l) (m := l.length) hw (by rw [bys_length, Nat.mul_one]) (by omega) (by simp only [maxLen]; omega) (by simp [rep_length, bys_length]; omega))
theorem ct_span_more {v u : Value} {a b : Bys} (hw : Sat G L w) (ka : Knows L (SlB v a)) (kb : Knows L (SlB u b)) (ha : Small a) (hb : Small b) : Calls Tryz.prog 151 #[v, u] w (Ret fun r w' => Sat G (row 5 1 r (maxB a b).length (bys (maxB a b)) :: L) w') := by
 refine calls_of_x (args := [_, _]) Tryz.func151 rfl Tryz.ntmps151 rfl rfl ?_
 refine z9 ?_
 refine x_call rfl rfl trivial cal_bytes_Compare rfl (ct_bytes_Compare hw (ka.of sF) (kb.of sF)) rfl (fun w v7 hv => ?_)
 obtain ⟨rfl, hw⟩ := hv
 refine z2 ?_
 refine x_if rfl (fun h1 => ?_) (fun h1 => ?_)
 ·
  refine z7 ?_
  refine x_call rfl rfl trivial cal_span_fresh rfl (ct_span_fresh (m := 0) hw (kb.of sF) hb (by omega)) rfl (fun w v11 hv => ?_)
  refine z3 ?_
  exact end1 rfl rfl rfl (by rw [show maxB a b = b from if_pos h1]; exact hv)
 refine z4 ?_
 refine x_call rfl rfl trivial cal_span_fresh rfl (ct_span_fresh (m := 0) hw (ka.of sF) ha (by omega)) rfl (fun w v11 hv => ?_)
 refine z3 ?_
 exact end1 rfl rfl rfl (by rw [show maxB a b = a from if_neg h1]; exact hv)
theorem ct_span_less {v u : Value} {a b : Bys} (hw : Sat G L w) (ka : Knows L (SlB v a)) (kb : Knows L (SlB u b)) (ha : Small a) (hb : Small b) : Calls Tryz.prog 153 #[v, u] w (Ret fun r w' => Sat G (row 5 1 r (minB a b).length (bys (minB a b)) :: L) w') := by
 refine calls_of_x (args := [_, _]) Tryz.func153 rfl Tryz.ntmps153 rfl rfl ?_
 refine z9 ?_
 refine x_call rfl rfl trivial cal_bytes_Compare rfl (ct_bytes_Compare hw (ka.of sF) (kb.of sF)) rfl (fun w v7 hv => ?_)
 obtain ⟨rfl, hw⟩ := hv
 refine z2 ?_
 refine x_if rfl (fun h1 => ?_) (fun h1 => ?_)
 ·
  refine z7 ?_
  refine x_call rfl rfl trivial cal_span_fresh rfl (ct_span_fresh (m := 0) hw (kb.of sF) hb (by omega)) rfl (fun w v11 hv => ?_)
  refine z3 ?_
  exact end1 rfl rfl rfl (by rw [show minB a b = b from if_pos h1]; exact hv)
 refine z4 ?_
 refine x_call rfl rfl trivial cal_span_fresh rfl (ct_span_fresh (m := 0) hw (ka.of sF) ha (by omega)) rfl (fun w v11 hv => ?_)
 refine z3 ?_
 exact end1 rfl rfl rfl (by rw [show minB a b = a from if_neg h1]; exact hv)
theorem ct_ref04_greater {v u : Value} {a b : Bys} (hw : Sat G L w) (ka : Knows L (SlB v a)) (kb : Knows L (SlB u b)) (ha : Small a) (hb : Small b) : Calls Tryz.prog 177 #[v, u] w (Ret fun r w' => Sat G (row 5 1 r (maxB a b).length (bys (maxB a b)) :: L) w') := by
 refine calls_of_x (args := [_, _]) Tryz.func177 rfl Tryz.ntmps177 rfl rfl ?_
 refine z9 ?_
 refine x_call rfl rfl trivial cal_ref00_Compare rfl (ct_ref00_Compare hw (ka.of sF) (kb.of sF) ha hb) rfl (fun w v7 hv => ?_)
 obtain ⟨rfl, hw⟩ := hv
 refine z2 ?_
 refine x_if rfl (fun h1 => ?_) (fun h1 => ?_)
 ·
  refine z3 ?_
  refine x_call rfl rfl trivial cal_ref00_CopyBytes rfl (ct_ref00_CopyBytes hw (ka.of sF) ha) rfl (fun w v10 hv => ?_)
  refine z3 ?_
  exact end1 rfl rfl rfl (by rw [show maxB a b = a from if_neg (by omega)]; exact hv)
 refine z4 ?_
 refine x_call rfl rfl trivial cal_ref00_CopyBytes rfl (ct_ref00_CopyBytes hw (kb.of sF) hb) rfl (fun w v12 hv => ?_)
 refine z3 ?_
 exact end1 rfl rfl rfl (by rw [show maxB a b = b from if_pos (by omega)]; exact hv)
theorem ct_ref04_lesser {v u : Value} {a b : Bys} (hw : Sat G L w) (ka : Knows L (SlB v a)) (kb : Knows L (SlB u b)) (ha : Small a) (hb : Small b) : Calls Tryz.prog 178 #[v, u] w (Ret fun r w' => Sat G (row 5 1 r (minB a b).length (bys (minB a b)) :: L) w') := by
 refine calls_of_x (args := [_, _]) Tryz.func178 rfl Tryz.ntmps178 rfl rfl ?_
 refine z9 ?_
 refine x_call rfl rfl trivial cal_ref00_Compare rfl (ct_ref00_Compare hw (ka.of sF) (kb.of sF) ha hb) rfl (fun w v7 hv => ?_)
 obtain ⟨rfl, hw⟩ := hv
 refine z2 ?_
 refine x_if rfl (fun h1 => ?_) (fun h1 => ?_)
 ·
  refine z3 ?_
  refine x_call rfl rfl trivial cal_ref00_CopyBytes rfl (ct_ref00_CopyBytes hw (ka.of sF) ha) rfl (fun w v10 hv => ?_)
  refine z3 ?_
  exact end1 rfl rfl rfl (by rw [show minB a b = a from if_neg (by omega)]; exact hv)
 refine z4 ?_
 refine x_call rfl rfl trivial cal_ref00_CopyBytes rfl (ct_ref00_CopyBytes hw (kb.of sF) hb) rfl (fun w v12 hv => ?_)
 refine z3 ?_
 exact end1 rfl rfl rfl (by rw [show minB a b = b from if_pos (by omega)]; exact hv)
end
section
variable {P : Program} {ops : Array Oper}
def setAll (pre : List Nat) (listed : Array Bool) : Array Bool := pre.foldl (fun l i => l.setIfInBounds i true) listed
def segP (P : Program) (ops : Array Oper) : List Nat → Array Bool → Bool
 | [], _ => true
 | i :: r, listed => (Region.ready .any ops listed).contains i && freeP P ops listed i && segP P ops r (listed.setIfInBounds i true)
theorem SAny_seg {n : Nat} (hcl : CleanR P .any ops n) {Q : Act → World → Prop} (fuel : Nat) (Kc : Act → World → Prop) : ∀ (pre : List Nat) (listed : Array Bool) (done : List Nat) (a : Act) (w : World), a.tmps.size = n → Closed .any ops listed →
  (∀ q ∈ done, listed.getD q false = true) → segP P ops pre listed = true →
  (∀ a w, Kc a w → a.tmps.size = n → Closed .any ops (setAll pre listed) → (∀ q ∈ pre.reverse ++ done, (setAll pre listed).getD q false = true) → SAny P .any ops Q fuel (setAll pre listed) (pre.reverse ++ done) a w) →
  SL P ops Kc done pre a w → SAny P .any ops Q (pre.length + fuel) listed done a w
 | [], listed, done, a, w, hsz, hc, hd, _, hk, h => by
  have := hk a w h hsz hc (by simpa [setAll] using hd)
  simpa [setAll] using this
 | i :: r, listed, done, a, w, hsz, hc, hd, hB, hk, h => by
  simp only [segP, Bool.and_eq_true] at hB
  obtain ⟨⟨hr, hf⟩, hB'⟩ := hB
  have hr' : i ∈ Region.ready .any ops listed := by simpa using hr
  obtain ⟨_, oi, hoi, _⟩ := mem_ready.1 hr'
  simp only [SL, hoi] at h
  have hfe : (i :: r).length + fuel = (r.length + fuel) + 1 := by simp only [List.length_cons]; omega
  rw [hfe]
  refine SAny_first hcl hoi (r.length + fuel) listed done a w hsz hc hd (fun j oj hj hji hun hnd => ?_) hr' ?_
  ·have hlt : j < ops.size := (Array.getElem?_eq_some_iff.1 hj).1
   have h1 := List.all_eq_true.1 hf j (List.mem_range.2 hlt)
   have hb : (j == i) = false := by simpa using hji
   have hb2 : (deps .any ops i).contains j = false := by
    cases hx : (deps .any ops i).contains j with
    | false => rfl
    | true => exact absurd (List.contains_iff_mem.1 hx) hnd
   simp only [hb, hun, hb2, Bool.false_or, hoi, hj, Bool.and_eq_true] at h1
   exact h1
  refine SOpR_mono (fun v w' h' => SAny_seg hcl fuel Kc r _ _ _ _ (put_size hsz _ _) (hc.set hr') (fun q hq => ?_) hB' (fun a w hK hs hc' hd' => ?_) h') h
  ·rcases List.mem_cons.1 hq with rfl | hq
   ·have hlt : q < listed.size := by rw [hc.size]; exact (Array.getElem?_eq_some_iff.1 hoi).1
    simp [hlt]
   exact getD_set_true (hd q hq)
  have hrev : (i :: r).reverse ++ done = r.reverse ++ i :: done := by simp
  have hset : setAll (i :: r) listed = setAll r (listed.setIfInBounds i true) := rfl
  have := hk a w hK hs (by rw [hset]; exact hc') (by rw [hrev, hset]; exact hd')
  rw [hrev, hset] at this
  exact this
def regF (P : Program) (ops : Array Oper) (n : Nat) (pre : List Nat) (i : Nat) (r1 : List Nat) (j : Nat) (r2 : List Nat) : Bool :=
 Region.noSelect ops && dstB n ops && readsB P ops && (pre.length + (r1.length + 1) == ops.size) && (r2.length == r1.length) && segP P ops pre (Array.replicate ops.size false) &&
  (Region.ready .any ops (setAll pre (Array.replicate ops.size false))).all (fun k => k == i || k == j) && !(Region.ready .any ops (setAll pre (Array.replicate ops.size false))).isEmpty &&
  lexP P ops r1 ((setAll pre (Array.replicate ops.size false)).setIfInBounds i true) && lexP P ops r2 ((setAll pre (Array.replicate ops.size false)).setIfInBounds j true)
theorem SAny_pick {n : Nat} (hcl : CleanR P .any ops n) {Q : Act → World → Prop} {i : Nat} {r : List Nat} {listed : Array Bool} {done : List Nat} {a : Act} {w : World} (hsz : a.tmps.size = n) (hc : Closed .any ops listed) (hd : ∀ q ∈ done, listed.getD q false = true)
  (hr : i ∈ Region.ready .any ops listed) (hB : lexP P ops r (listed.setIfInBounds i true) = true) (h : SL P ops Q done (i :: r) a w) : ∀ o, ops[i]? = some o → SOpR P .any ops done i o (SAny P .any ops Q r.length (listed.setIfInBounds i true) (i :: done)) a w := by
 intro o ho
 simp only [SL, ho] at h
 refine SOpR_mono (fun v w' h' => SAny_lex hcl r _ _ _ _ (put_size hsz _ _) (hc.set hr) (fun q hq => ?_) hB h') h
 rcases List.mem_cons.1 hq with rfl | hq
 ·have hlt : q < listed.size := by rw [hc.size]; exact (Array.getElem?_eq_some_iff.1 ho).1
  simp [hlt]
 exact getD_set_true (hd q hq)
theorem wp_region_fork {ro : Option Nat} {n : Nat} (pre : List Nat) (i : Nat) (r1 : List Nat) (j : Nat) (r2 : List Nat) {id : Nat} {Q : Exit → Act → World → Prop} {a : Act} {w : World} (hm : P.follows .mixedOrders = true) (hB : regF P ops n pre i r1 j r2 = true) (hsz : a.tmps.size = n)
  (h : SL P ops (fun a' w' => SL P ops (Q .normal) pre.reverse (i :: r1) a' w' ∧ SL P ops (Q .normal) pre.reverse (j :: r2) a' w') [] pre a { w with drawn := w.drawn + 1 }) : (Code.region id ops true).wpIn (Fw ro) 0 P Q a w := by
 simp only [regF, Bool.and_eq_true, beq_iff_eq] at hB
 obtain ⟨⟨⟨⟨⟨⟨⟨⟨⟨h1, h2⟩, h3⟩, h4⟩, h5⟩, h6⟩, h7⟩, h8⟩, h9⟩, h10⟩ := hB
 refine wpIn_region_any hm (wpAny_of_SAny (Q := Q .normal) (fun _ _ h => h) _ _ [] _ _ ?_)
 have hcl := clean_of (n := n) h1 h2 h3
 have hres := SAny_seg hcl (Q := Q .normal) (r1.length + 1) (fun a' w' => SL P ops (Q .normal) pre.reverse (i :: r1) a' w' ∧ SL P ops (Q .normal) pre.reverse (j :: r2) a' w') pre (Array.replicate ops.size false) [] a _ hsz ⟨by simp, fun j o ho hl => ?_⟩ (fun q hq => by cases hq) h6
  (fun a' w' hK hs hc hd => ⟨fun h0 => ?_, fun k hk o ho => ?_⟩) h
 ·rw [h4] at hres
  exact hres
 ·exfalso
  rcases Nat.lt_or_ge j ops.size with h' | h'
  ·simp [h'] at hl
  simp [Array.getElem?_eq_none (show (Array.replicate ops.size false).size ≤ j by simpa using h')] at hl
 ·rw [h0] at h8; simp at h8
 have hd' : ∀ q ∈ pre.reverse, (setAll pre (Array.replicate ops.size false)).getD q false = true := fun q hq => hd q (by simpa using hq)
 have h7' := List.all_eq_true.1 h7 k hk
 simp only [Bool.or_eq_true, beq_iff_eq] at h7'
 rw [show pre.reverse ++ ([] : List Nat) = pre.reverse from List.append_nil _]
 rcases h7' with rfl | rfl
 ·exact SAny_pick hcl hs hc hd' hk h9 hK.1 o ho
 rw [← h5]; exact SAny_pick hcl hs hc hd' hk h10 hK.2 o ho
end
section
variable {P : Program} {n : Nat} {ro : Option Nat} {ops : Array Oper} {K : Cont} {E : List (Nat × Cont)} {F : Cont} {e : Env} {w : World}
theorem x_drawF {id : Nat} (pre : List Nat) (i : Nat) (r1 : List Nat) (j : Nat) (r2 : List Nat) (hm : P.follows .mixedOrders = true) (hB : regF P ops n pre i r1 j r2 = true)
  (h : XL P n ops true [] pre (fun e' w' => XL P n ops true pre.reverse (i :: r1) K e' w' ∧ XL P n ops true pre.reverse (j :: r2) K e' w') e { w with drawn := w.drawn + 1 }) : X P n ro (.region id ops true) K E F e w := fun a ha => by
 refine wp_region_fork pre i r1 j r2 hm hB ha.size ?_
 refine SL_mono (fun a' w' ⟨e', ha', h1, h2⟩ => ⟨h1 a' ha', h2 a' ha'⟩) _ _ _ _ (h a ha)
end
section
variable {G : Gh} {L R : List Assn} {w : World}
theorem ct_span_Meet {a b : RgV} (hw : Sat G L w) (ha : a.Ok L) (hb : b.Ok L) :
  Calls Tryz.prog 103 #[.agg a.cells.toArray, .agg b.cells.toArray] w (Ret fun u w' => ∃ r : RgV, u = .agg r.cells.toArray ∧ r.rg = meetR a.rg b.rg ∧ Ones r.cells ∧ Sat G (rgParts r ++ L) w') := by
 have hal := ha.lo
 have hah := ha.hi
 have hbl := hb.lo
 have hbh := hb.hi
 obtain ⟨qa, dqa, ha1, ha2⟩ := bool_prop a.rg.opn
 obtain ⟨qb, dqb, hb1, hb2⟩ := bool_prop b.rg.opn
 have hca : a.cells = [a.lv, a.hv, .bool (decide qa)] := by rw [← ha1]; rfl
 have hcb : b.cells = [b.lv, b.hv, .bool (decide qb)] := by rw [← hb1]; rfl
 rw [hca, hcb]
 have ho : (meetR a.rg b.rg).opn = decide (qa ∧ qb) := by show (a.rg.opn && b.rg.opn) = _; rw [ha1, hb1, Bool.decide_and]
 have hh : (meetR a.rg b.rg).hi = if a.rg.opn = true then (if b.rg.opn = true then [] else b.rg.hi) else if b.rg.opn = true then a.rg.hi else minB a.rg.hi b.rg.hi := rfl
 refine calls_of_x (args := [_, _]) Tryz.func103 rfl Tryz.ntmps103 rfl rfl ?_
 refine z2 ?_
 refine x_box rfl rfl trivial rfl rfl hw rfl (fun w b2 hw => ?_)
 refine x_box rfl rfl trivial rfl rfl hw rfl (fun w b3 hw => ?_)
 refine x_alloc rfl rfl trivial z_api_Range hw rfl (fun w b4 hw => ?_)
 refine xl_nil ?_
 refine x_join (fun e w => ∃ (a10 : Option Addr) (c10 b5 : Nat), e = [(2, .pointer (some ⟨b2, 0, none⟩)), (3, .pointer (some ⟨b3, 0, none⟩)), (4, .pointer (some ⟨b4, 0, none⟩)), (5, .pointer (some ⟨b5, 0, none⟩))] ∧ Sat G (blk b2 [a.lv, a.hv, .bool (decide qa)] 64 :: blk b3 [b.lv, b.hv, .bool (decide qb)] 64 :: blk b4 [.slice none 0 0, .slice none 0 0, .bool false] 64 :: blk b5 [.slice a10 (maxB a.rg.lo b.rg.lo).length c10, .slice none 0 0, .bool (decide (qa ∧ qb))] 64 :: row 5 1 (.slice a10 (maxB a.rg.lo b.rg.lo).length c10) (maxB a.rg.lo b.rg.lo).length (bys (maxB a.rg.lo b.rg.lo)) :: L) w) ?_ ?_
 ·
  refine x_drawF [0, 1, 2, 3, 5, 6] 4 [7, 8, 9, 10, 11, 12, 13] 12 [4, 7, 8, 9, 10, 11, 13] mixed (by kernel_rfl) ?_
  replace hw := hw.drawn (w.drawn + 1)
  refine z1 ?_
  refine lD one_sl_uint8 hw ?_
  refine z1 ?_
  refine lD one_sl_uint8 hw ?_
  refine z1 ?_
  refine lD one_bool hw ?_
  refine xl_nil ?_
  refine ⟨?_, ?_⟩
  ·
   refine x_callP rfl rfl trivial cal_span_more rfl (ct_span_more hw (hal.of sF) (hbl.of sF) ha.sl hb.sl) (fun w v10 hv q' hq => ?_) (fun w v10 hv => ?_)
   ·
    have hw : Sat G (row 5 1 v10 _ _ :: _) w := hv
    have hq := pend_mem (l := [6]) (by kernel_rfl) hq
    simp only [List.mem_cons, List.not_mem_nil, or_false] at hq
    subst hq
    exact chk_ld rfl rfl rfl (Loads.blk1 one_bool hw pK rfl)
   have hw : Sat G (row 5 1 v10 _ _ :: _) w := hv
   obtain ⟨a10, c10, rfl⟩ := row_form hw
   refine z1 ?_
   refine xl_split (d := 13) rfl (fun h1 => ?_) (fun h1 => ?_)
   ·
    refine z1 ?_
    refine lD one_bool hw ?_
    refine z1 ?_
    refine x_build (v := .agg #[.slice a10 (maxB a.rg.lo b.rg.lo).length c10, .slice none 0 0, .bool (decide qb)]) rfl rfl trivial rfl (fun w => by kernel_rfl) ?_
    refine x_allocP rfl rfl trivial z_api_Range hw (fun w b5 hw q' hq => ?_) (fun w b5 hw => ?_)
    ·
     have hq := pend_mem (l := [9, 6, 3, 1]) (by kernel_rfl) hq
     simp only [List.mem_cons, List.not_mem_nil, or_false] at hq
     rcases hq with rfl | rfl | rfl | rfl
     ·exact chk_ld rfl rfl rfl (Loads.blk1 one_bool hw pK rfl)
     ·exact chk_ld rfl rfl rfl (Loads.blk1 one_bool hw pK rfl)
     ·exact chk_ld rfl rfl rfl (Loads.blk1 one_sl_uint8 hw pK rfl)
     exact chk_ld rfl rfl rfl (Loads.blk1 one_sl_uint8 hw pK rfl)
    refine x_stN (cs := [.slice a10 (maxB a.rg.lo b.rg.lo).length c10, .slice none 0 0, .bool (decide qb)]) (l' := [.slice a10 (maxB a.rg.lo b.rg.lo).length c10, .slice none 0 0, .bool (decide qb)]) rfl trivial rfl rfl many_api_Range rfl (by intro u hu; simp at hu; rcases hu with rfl | rfl | rfl <;> rfl) hw pK (by simp) rfl (by kernel_rfl) (fun w hw => ?_)
    refine xl_nil ?_
    have e1 : decide (qa ∧ qb) = decide qb := decide_eq_decide.2 ⟨fun h => h.2, fun h => ⟨h1, h⟩⟩
    rw [e1]
    exact ⟨[(2, _), (3, _), (4, _), (5, _)], sB, _, _, b5, rfl, hw.b [blk b2 _ _, blk b3 _ _, blk b4 _ _, blk b5 _ _, row 5 1 _ _ _]⟩
   refine z3 ?_
   refine x_build (v := .agg #[.slice a10 (maxB a.rg.lo b.rg.lo).length c10, .slice none 0 0, .bool (false)]) rfl rfl trivial rfl (fun w => by kernel_rfl) ?_
   refine x_allocP rfl rfl trivial z_api_Range hw (fun w b5 hw q' hq => ?_) (fun w b5 hw => ?_)
   ·
    have hq := pend_mem (l := [9, 6, 3, 1]) (by kernel_rfl) hq
    simp only [List.mem_cons, List.not_mem_nil, or_false] at hq
    rcases hq with rfl | rfl | rfl | rfl
    ·exact chk_not rfl rfl rfl rfl rfl
    ·exact chk_ld rfl rfl rfl (Loads.blk1 one_bool hw pK rfl)
    ·exact chk_ld rfl rfl rfl (Loads.blk1 one_sl_uint8 hw pK rfl)
    exact chk_ld rfl rfl rfl (Loads.blk1 one_sl_uint8 hw pK rfl)
   refine x_stN (cs := [.slice a10 (maxB a.rg.lo b.rg.lo).length c10, .slice none 0 0, .bool (false)]) (l' := [.slice a10 (maxB a.rg.lo b.rg.lo).length c10, .slice none 0 0, .bool (false)]) rfl trivial rfl rfl many_api_Range rfl (by intro u hu; simp at hu; rcases hu with rfl | rfl | rfl <;> rfl) hw pK (by simp) rfl (by kernel_rfl) (fun w hw => ?_)
   refine xl_nil ?_
   have e1 : decide (qa ∧ qb) = false := decide_eq_false (fun h => h1 h.1)
   rw [e1]
   exact ⟨[(2, _), (3, _), (4, _), (5, _)], sB, _, _, b5, rfl, hw.b [blk b2 _ _, blk b3 _ _, blk b4 _ _, blk b5 _ _, row 5 1 _ _ _]⟩
  refine x_allocP rfl rfl trivial z_api_Range hw (fun w b5 hw q' hq => ?_) (fun w b5 hw => ?_)
  ·
   have hq := pend_mem (l := [6, 3, 1]) (by kernel_rfl) hq
   simp only [List.mem_cons, List.not_mem_nil, or_false] at hq
   rcases hq with rfl | rfl | rfl
   ·exact chk_ld rfl rfl rfl (Loads.blk1 one_bool hw pK rfl)
   ·exact chk_ld rfl rfl rfl (Loads.blk1 one_sl_uint8 hw pK rfl)
   exact chk_ld rfl rfl rfl (Loads.blk1 one_sl_uint8 hw pK rfl)
  refine x_callP rfl rfl trivial cal_span_more rfl (ct_span_more hw (hal.of sF) (hbl.of sF) ha.sl hb.sl) (fun w v10 hv q' hq => ?_) (fun w v10 hv => ?_)
  ·
   have hw : Sat G (row 5 1 v10 _ _ :: _) w := hv
   have hq := pend_mem (l := [6]) (by kernel_rfl) hq
   simp only [List.mem_cons, List.not_mem_nil, or_false] at hq
   subst hq
   exact chk_ld rfl rfl rfl (Loads.blk1 one_bool hw pK rfl)
  have hw : Sat G (row 5 1 v10 _ _ :: _) w := hv
  obtain ⟨a10, c10, rfl⟩ := row_form hw
  refine z1 ?_
  refine xl_split (d := 13) rfl (fun h2 => ?_) (fun h2 => ?_)
  ·
   refine z1 ?_
   refine lD one_bool hw ?_
   refine z1 ?_
   refine x_build (v := .agg #[.slice a10 (maxB a.rg.lo b.rg.lo).length c10, .slice none 0 0, .bool (decide qb)]) rfl rfl trivial rfl (fun w => by kernel_rfl) ?_
   refine x_stN (cs := [.slice a10 (maxB a.rg.lo b.rg.lo).length c10, .slice none 0 0, .bool (decide qb)]) (l' := [.slice a10 (maxB a.rg.lo b.rg.lo).length c10, .slice none 0 0, .bool (decide qb)]) rfl trivial rfl rfl many_api_Range rfl (by intro u hu; simp at hu; rcases hu with rfl | rfl | rfl <;> rfl) hw pK (by simp) rfl (by kernel_rfl) (fun w hw => ?_)
   refine xl_nil ?_
   have e1 : decide (qa ∧ qb) = decide qb := decide_eq_decide.2 ⟨fun h => h.2, fun h => ⟨h2, h⟩⟩
   rw [e1]
   exact ⟨[(2, _), (3, _), (4, _), (5, _)], sB, _, _, b5, rfl, hw.b [blk b2 _ _, blk b3 _ _, blk b4 _ _, blk b5 _ _, row 5 1 _ _ _]⟩
  refine z3 ?_
  refine x_build (v := .agg #[.slice a10 (maxB a.rg.lo b.rg.lo).length c10, .slice none 0 0, .bool (false)]) rfl rfl trivial rfl (fun w => by kernel_rfl) ?_
  refine x_stN (cs := [.slice a10 (maxB a.rg.lo b.rg.lo).length c10, .slice none 0 0, .bool (false)]) (l' := [.slice a10 (maxB a.rg.lo b.rg.lo).length c10, .slice none 0 0, .bool (false)]) rfl trivial rfl rfl many_api_Range rfl (by intro u hu; simp at hu; rcases hu with rfl | rfl | rfl <;> rfl) hw pK (by simp) rfl (by kernel_rfl) (fun w hw => ?_)
  refine xl_nil ?_
  have e1 : decide (qa ∧ qb) = false := decide_eq_false (fun h => h2 h.1)
  rw [e1]
  exact ⟨[(2, _), (3, _), (4, _), (5, _)], sB, _, _, b5, rfl, hw.b [blk b2 _ _, blk b3 _ _, blk b4 _ _, blk b5 _ _, row 5 1 _ _ _]⟩
 clear hw
 rintro e w ⟨a10, c10, b5, rfl, hw⟩
 refine z5 ?_
 refine lD one_bool hw ?_
 refine z2 ?_
 refine x_if rfl (fun h3 => ?_) (fun h3 => ?_)
 ·
  refine z3 ?_
  refine x_ld rfl rfl trivial rfl (Loads.blkA many_api_Range hw pK (by simp)) ?_
  refine x_stN (cs := [.slice a10 (maxB a.rg.lo b.rg.lo).length c10, .slice none 0 0, .bool (decide (qa ∧ qb))]) (l' := [.slice a10 (maxB a.rg.lo b.rg.lo).length c10, .slice none 0 0, .bool (decide (qa ∧ qb))]) rfl trivial rfl rfl many_api_Range rfl (by intro u hu; simp at hu; rcases hu with rfl | rfl | rfl <;> rfl) hw pK (by simp) rfl (by kernel_rfl) (fun w hw => ?_)
  refine z2 ?_
  exact end1 rfl rfl ⟨_, rfl, (Loads.blkA many_api_Range hw pK (by simp))⟩ (by
 have e1 : (meetR a.rg b.rg).hi = [] := by rw [hh]; rw [if_pos (ha2.2 h3.1), if_pos (hb2.2 h3.2)]
 refine ⟨⟨meetR a.rg b.rg, .slice a10 (maxB a.rg.lo b.rg.lo).length c10, .slice none 0 0⟩, by rw [RgV.cells, ho], rfl, by intro u hu; simp [RgV.cells] at hu; rcases hu with rfl | rfl | rfl <;> rfl, ?_⟩
 have hw := row_nil hw 5 1
 unfold rgParts
 simp only [e1]
 have hz := (hw.b [blk b2 _ _, blk b3 _ _, blk b4 _ _, blk b5 _ _, row 5 1 (.slice a10 _ _) _ _, row 5 1 (.slice none _ _) _ _]).tail.tail.tail.tail
 exact hz)
 refine z3 ?_
 refine lD one_bool hw ?_
 refine z2 ?_
 refine x_if rfl (fun h4 => ?_) (fun h4 => ?_)
 ·
  refine z2 ?_
  refine lD one_sl_uint8 hw ?_
  refine x_call rfl rfl trivial cal_span_fresh rfl (ct_span_fresh (m := 0) hw (hbh.of sF) hb.sh (by omega)) rfl (fun w v32 hv => ?_)
  have hw : Sat G (row 5 1 v32 _ _ :: _) w := hv
  obtain ⟨a32, c32, rfl⟩ := row_form hw
  refine z1 ?_
  refine x_st1 (l' := [.slice a10 (maxB a.rg.lo b.rg.lo).length c10, .slice a32 (b.rg.hi).length c32, .bool (decide (qa ∧ qb))]) rfl trivial rfl rfl one_sl_uint8 rfl hw pK rfl rfl rfl (fun w hw => ?_)
  refine z3 ?_
  refine x_ld rfl rfl trivial rfl (Loads.blkA many_api_Range hw pK (by simp)) ?_
  refine x_stN (cs := [.slice a10 (maxB a.rg.lo b.rg.lo).length c10, .slice a32 (b.rg.hi).length c32, .bool (decide (qa ∧ qb))]) (l' := [.slice a10 (maxB a.rg.lo b.rg.lo).length c10, .slice a32 (b.rg.hi).length c32, .bool (decide (qa ∧ qb))]) rfl trivial rfl rfl many_api_Range rfl (by intro u hu; simp at hu; rcases hu with rfl | rfl | rfl <;> rfl) hw pK (by simp) rfl (by kernel_rfl) (fun w hw => ?_)
  refine z2 ?_
  exact end1 rfl rfl ⟨_, rfl, (Loads.blkA many_api_Range hw pK (by simp))⟩ (by
 have e1 : (meetR a.rg b.rg).hi = b.rg.hi := by rw [hh]; rw [if_pos (ha2.2 h4), if_neg (fun h => h3 ⟨h4, hb2.1 h⟩)]
 refine ⟨⟨meetR a.rg b.rg, .slice a10 (maxB a.rg.lo b.rg.lo).length c10, .slice a32 (b.rg.hi).length c32⟩, by rw [RgV.cells, ho], rfl, by intro u hu; simp [RgV.cells] at hu; rcases hu with rfl | rfl | rfl <;> rfl, ?_⟩
 unfold rgParts
 simp only [e1]
 have hz := (hw.b [blk b2 _ _, blk b3 _ _, blk b4 _ _, blk b5 _ _, row 5 1 (.slice a10 _ _) _ _, row 5 1 (.slice a32 _ _) _ _]).tail.tail.tail.tail
 exact hz)
 refine z3 ?_
 refine lD one_bool hw ?_
 refine z2 ?_
 refine x_if rfl (fun h5 => ?_) (fun h5 => ?_)
 ·
  refine z2 ?_
  refine lD one_sl_uint8 hw ?_
  refine x_call rfl rfl trivial cal_span_fresh rfl (ct_span_fresh (m := 0) hw (hah.of sF) ha.sh (by omega)) rfl (fun w v39 hv => ?_)
  have hw : Sat G (row 5 1 v39 _ _ :: _) w := hv
  obtain ⟨a39, c39, rfl⟩ := row_form hw
  refine z1 ?_
  refine x_st1 (l' := [.slice a10 (maxB a.rg.lo b.rg.lo).length c10, .slice a39 (a.rg.hi).length c39, .bool (decide (qa ∧ qb))]) rfl trivial rfl rfl one_sl_uint8 rfl hw pK rfl rfl rfl (fun w hw => ?_)
  refine z3 ?_
  refine x_ld rfl rfl trivial rfl (Loads.blkA many_api_Range hw pK (by simp)) ?_
  refine x_stN (cs := [.slice a10 (maxB a.rg.lo b.rg.lo).length c10, .slice a39 (a.rg.hi).length c39, .bool (decide (qa ∧ qb))]) (l' := [.slice a10 (maxB a.rg.lo b.rg.lo).length c10, .slice a39 (a.rg.hi).length c39, .bool (decide (qa ∧ qb))]) rfl trivial rfl rfl many_api_Range rfl (by intro u hu; simp at hu; rcases hu with rfl | rfl | rfl <;> rfl) hw pK (by simp) rfl (by kernel_rfl) (fun w hw => ?_)
  refine z2 ?_
  exact end1 rfl rfl ⟨_, rfl, (Loads.blkA many_api_Range hw pK (by simp))⟩ (by
 have e1 : (meetR a.rg b.rg).hi = a.rg.hi := by rw [hh]; rw [if_neg (fun h => h4 (ha2.1 h)), if_pos (hb2.2 h5)]
 refine ⟨⟨meetR a.rg b.rg, .slice a10 (maxB a.rg.lo b.rg.lo).length c10, .slice a39 (a.rg.hi).length c39⟩, by rw [RgV.cells, ho], rfl, by intro u hu; simp [RgV.cells] at hu; rcases hu with rfl | rfl | rfl <;> rfl, ?_⟩
 unfold rgParts
 simp only [e1]
 have hz := (hw.b [blk b2 _ _, blk b3 _ _, blk b4 _ _, blk b5 _ _, row 5 1 (.slice a10 _ _) _ _, row 5 1 (.slice a39 _ _) _ _]).tail.tail.tail.tail
 exact hz)
 refine z2 ?_
 refine lD one_sl_uint8 hw ?_
 refine z1 ?_
 refine lD one_sl_uint8 hw ?_
 refine x_call rfl rfl trivial cal_span_less rfl (ct_span_less hw (hah.of sF) (hbh.of sF) ha.sh hb.sh) rfl (fun w v22 hv => ?_)
 have hw : Sat G (row 5 1 v22 _ _ :: _) w := hv
 obtain ⟨a22, c22, rfl⟩ := row_form hw
 refine z1 ?_
 refine x_st1 (l' := [.slice a10 (maxB a.rg.lo b.rg.lo).length c10, .slice a22 (minB a.rg.hi b.rg.hi).length c22, .bool (decide (qa ∧ qb))]) rfl trivial rfl rfl one_sl_uint8 rfl hw pK rfl rfl rfl (fun w hw => ?_)
 refine z3 ?_
 refine x_ld rfl rfl trivial rfl (Loads.blkA many_api_Range hw pK (by simp)) ?_
 refine x_stN (cs := [.slice a10 (maxB a.rg.lo b.rg.lo).length c10, .slice a22 (minB a.rg.hi b.rg.hi).length c22, .bool (decide (qa ∧ qb))]) (l' := [.slice a10 (maxB a.rg.lo b.rg.lo).length c10, .slice a22 (minB a.rg.hi b.rg.hi).length c22, .bool (decide (qa ∧ qb))]) rfl trivial rfl rfl many_api_Range rfl (by intro u hu; simp at hu; rcases hu with rfl | rfl | rfl <;> rfl) hw pK (by simp) rfl (by kernel_rfl) (fun w hw => ?_)
 refine z2 ?_
 exact end1 rfl rfl ⟨_, rfl, (Loads.blkA many_api_Range hw pK (by simp))⟩ (by
 have e1 : (meetR a.rg b.rg).hi = minB a.rg.hi b.rg.hi := by rw [hh]; rw [if_neg (fun h => h4 (ha2.1 h)), if_neg (fun h => h5 (hb2.1 h))]
 refine ⟨⟨meetR a.rg b.rg, .slice a10 (maxB a.rg.lo b.rg.lo).length c10, .slice a22 (minB a.rg.hi b.rg.hi).length c22⟩, by rw [RgV.cells, ho], rfl, by intro u hu; simp [RgV.cells] at hu; rcases hu with rfl | rfl | rfl <;> rfl, ?_⟩
 unfold rgParts
 simp only [e1]
 have hz := (hw.b [blk b2 _ _, blk b3 _ _, blk b4 _ _, blk b5 _ _, row 5 1 (.slice a10 _ _) _ _, row 5 1 (.slice a22 _ _) _ _]).tail.tail.tail.tail
 exact hz)
end
section
variable {G : Gh} {L R : List Assn} {w : World}
theorem ct_ref04_Meet {a b : RgV} (hw : Sat G L w) (ha : a.Ok L) (hb : b.Ok L) :
  Calls Tryz.prog 155 #[.agg a.cells.toArray, .agg b.cells.toArray] w (Ret fun u w' => ∃ r : RgV, u = .agg r.cells.toArray ∧ r.rg = meetR a.rg b.rg ∧ Ones r.cells ∧ Sat G (rgParts r ++ L) w') := by
 have hal := ha.lo
 have hah := ha.hi
 have hbl := hb.lo
 have hbh := hb.hi
 obtain ⟨qa, dqa, ha1, ha2⟩ := bool_prop a.rg.opn
 obtain ⟨qb, dqb, hb1, hb2⟩ := bool_prop b.rg.opn
 have hca : a.cells = [a.lv, a.hv, .bool (decide qa)] := by rw [← ha1]; rfl
 have hcb : b.cells = [b.lv, b.hv, .bool (decide qb)] := by rw [← hb1]; rfl
 rw [hca, hcb]
 have ho : (meetR a.rg b.rg).opn = decide (qa ∧ qb) := by show (a.rg.opn && b.rg.opn) = _; rw [ha1, hb1, Bool.decide_and]
 have hh : (meetR a.rg b.rg).hi = if a.rg.opn = true then (if b.rg.opn = true then [] else b.rg.hi) else if b.rg.opn = true then a.rg.hi else minB a.rg.hi b.rg.hi := rfl
 refine calls_of_x (args := [_, _]) Tryz.func155 rfl Tryz.ntmps155 rfl rfl ?_
 refine z2 ?_
 refine x_box rfl rfl trivial rfl rfl hw rfl (fun w b2 hw => ?_)
 refine x_box rfl rfl trivial rfl rfl hw rfl (fun w b3 hw => ?_)
 refine x_alloc rfl rfl trivial z_api_Range hw rfl (fun w b4 hw => ?_)
 refine z4 ?_
 refine lD one_sl_uint8 hw ?_
 refine z1 ?_
 refine lD one_sl_uint8 hw ?_
 refine x_call rfl rfl trivial cal_ref04_greater rfl (ct_ref04_greater hw (hal.of sF) (hbl.of sF) ha.sl hb.sl) rfl (fun w v10 hv => ?_)
 have hw : Sat G (row 5 1 v10 _ _ :: _) w := hv
 obtain ⟨a10, c10, rfl⟩ := row_form hw
 refine x_build (v := .agg #[.slice a10 (maxB a.rg.lo b.rg.lo).length c10, .slice none 0 0, .bool false]) rfl rfl trivial rfl (fun w => by kernel_rfl) ?_
 refine x_alloc rfl rfl trivial z_api_Range hw rfl (fun w b5 hw => ?_)
 refine x_stN (cs := [.slice a10 (maxB a.rg.lo b.rg.lo).length c10, .slice none 0 0, .bool false]) (l' := [.slice a10 (maxB a.rg.lo b.rg.lo).length c10, .slice none 0 0, .bool false]) rfl trivial rfl rfl many_api_Range rfl (by intro u hu; simp at hu; rcases hu with rfl | rfl | rfl <;> rfl) hw pK (by simp) rfl (by kernel_rfl) (fun w hw => ?_)
 refine z6 ?_
 refine lD one_bool hw ?_
 refine z1 ?_
 refine xl_and (l1 := [3, 4, 5]) (l2 := [6]) rfl (d := 24) (qa ∧ qb) rfl ?_ ?_
 ·
  refine xl_split (d := 21) rfl (fun h1 => ?_) (fun h1 => ?_)
  ·
   refine z1 ?_
   refine lD one_bool hw ?_
   refine z2 ?_
   refine cQ ?_
   first | exact (decide_eq_false (fun h => h1 h.1)).symm | exact decide_eq_decide.2 ⟨fun h => ⟨h1, h⟩, fun h => h.2⟩
  refine z4 ?_
  refine cQ ?_
  first | exact (decide_eq_false (fun h => h1 h.1)).symm | exact decide_eq_decide.2 ⟨fun h => ⟨h1, h⟩, fun h => h.2⟩
 refine z2 ?_
 refine x_if rfl (fun h2 => ?_) (fun h2 => ?_)
 ·
  refine z2 ?_
  refine x_st1 (l' := [.slice a10 (maxB a.rg.lo b.rg.lo).length c10, .slice none 0 0, .bool true]) rfl trivial rfl rfl one_bool rfl hw pK rfl rfl rfl (fun w hw => ?_)
  refine z3 ?_
  refine x_ld rfl rfl trivial rfl (Loads.blkA many_api_Range hw pK (by simp)) ?_
  refine x_stN (cs := [.slice a10 (maxB a.rg.lo b.rg.lo).length c10, .slice none 0 0, .bool true]) (l' := [.slice a10 (maxB a.rg.lo b.rg.lo).length c10, .slice none 0 0, .bool true]) rfl trivial rfl rfl many_api_Range rfl (by intro u hu; simp at hu; rcases hu with rfl | rfl | rfl <;> rfl) hw pK (by simp) rfl (by kernel_rfl) (fun w hw => ?_)
  refine z2 ?_
  exact end1 rfl rfl ⟨_, rfl, (Loads.blkA many_api_Range hw pK (by simp))⟩ (by
 have e1 : (meetR a.rg b.rg).hi = [] := by rw [hh]; rw [if_pos (ha2.2 h2.1), if_pos (hb2.2 h2.2)]
 have e2 : (meetR a.rg b.rg).opn = true := by rw [ho]; exact decide_eq_true h2
 refine ⟨⟨meetR a.rg b.rg, .slice a10 (maxB a.rg.lo b.rg.lo).length c10, .slice none 0 0⟩, by rw [RgV.cells, e2], rfl, by intro u hu; simp [RgV.cells] at hu; rcases hu with rfl | rfl | rfl <;> rfl, ?_⟩
 have hw := row_nil hw 5 1
 unfold rgParts
 simp only [e1]
 have hz := (hw.b [blk b2 _ _, blk b3 _ _, blk b4 _ _, blk b5 _ _, row 5 1 (.slice a10 _ _) _ _, row 5 1 (.slice none _ _) _ _]).tail.tail.tail.tail
 exact hz)
 refine z3 ?_
 refine lD one_bool hw ?_
 refine z2 ?_
 refine x_if rfl (fun h3 => ?_) (fun h3 => ?_)
 ·
  refine z2 ?_
  refine lD one_sl_uint8 hw ?_
  refine x_call rfl rfl trivial cal_ref00_CopyBytes rfl (ct_ref00_CopyBytes hw (hbh.of sF) hb.sh) rfl (fun w v31 hv => ?_)
  have hw : Sat G (row 5 1 v31 _ _ :: _) w := hv
  obtain ⟨a31, c31, rfl⟩ := row_form hw
  refine z1 ?_
  refine x_st1 (l' := [.slice a10 (maxB a.rg.lo b.rg.lo).length c10, .slice a31 (b.rg.hi).length c31, .bool false]) rfl trivial rfl rfl one_sl_uint8 rfl hw pK rfl rfl rfl (fun w hw => ?_)
  refine z3 ?_
  refine x_ld rfl rfl trivial rfl (Loads.blkA many_api_Range hw pK (by simp)) ?_
  refine x_stN (cs := [.slice a10 (maxB a.rg.lo b.rg.lo).length c10, .slice a31 (b.rg.hi).length c31, .bool false]) (l' := [.slice a10 (maxB a.rg.lo b.rg.lo).length c10, .slice a31 (b.rg.hi).length c31, .bool false]) rfl trivial rfl rfl many_api_Range rfl (by intro u hu; simp at hu; rcases hu with rfl | rfl | rfl <;> rfl) hw pK (by simp) rfl (by kernel_rfl) (fun w hw => ?_)
  refine z2 ?_
  exact end1 rfl rfl ⟨_, rfl, (Loads.blkA many_api_Range hw pK (by simp))⟩ (by
 have e1 : (meetR a.rg b.rg).hi = b.rg.hi := by rw [hh]; rw [if_pos (ha2.2 h3), if_neg (fun h => h2 ⟨h3, hb2.1 h⟩)]
 have e2 : (meetR a.rg b.rg).opn = false := by rw [ho]; exact decide_eq_false h2
 refine ⟨⟨meetR a.rg b.rg, .slice a10 (maxB a.rg.lo b.rg.lo).length c10, .slice a31 (b.rg.hi).length c31⟩, by rw [RgV.cells, e2], rfl, by intro u hu; simp [RgV.cells] at hu; rcases hu with rfl | rfl | rfl <;> rfl, ?_⟩
 unfold rgParts
 simp only [e1]
 have hz := (hw.b [blk b2 _ _, blk b3 _ _, blk b4 _ _, blk b5 _ _, row 5 1 (.slice a10 _ _) _ _, row 5 1 (.slice a31 _ _) _ _]).tail.tail.tail.tail
 exact hz)
 refine z3 ?_
 refine lD one_bool hw ?_
 refine z2 ?_
 refine x_if rfl (fun h4 => ?_) (fun h4 => ?_)
 ·
  refine z2 ?_
  refine lD one_sl_uint8 hw ?_
  refine x_call rfl rfl trivial cal_ref00_CopyBytes rfl (ct_ref00_CopyBytes hw (hah.of sF) ha.sh) rfl (fun w v38 hv => ?_)
  have hw : Sat G (row 5 1 v38 _ _ :: _) w := hv
  obtain ⟨a38, c38, rfl⟩ := row_form hw
  refine z1 ?_
  refine x_st1 (l' := [.slice a10 (maxB a.rg.lo b.rg.lo).length c10, .slice a38 (a.rg.hi).length c38, .bool false]) rfl trivial rfl rfl one_sl_uint8 rfl hw pK rfl rfl rfl (fun w hw => ?_)
  refine z3 ?_
  refine x_ld rfl rfl trivial rfl (Loads.blkA many_api_Range hw pK (by simp)) ?_
  refine x_stN (cs := [.slice a10 (maxB a.rg.lo b.rg.lo).length c10, .slice a38 (a.rg.hi).length c38, .bool false]) (l' := [.slice a10 (maxB a.rg.lo b.rg.lo).length c10, .slice a38 (a.rg.hi).length c38, .bool false]) rfl trivial rfl rfl many_api_Range rfl (by intro u hu; simp at hu; rcases hu with rfl | rfl | rfl <;> rfl) hw pK (by simp) rfl (by kernel_rfl) (fun w hw => ?_)
  refine z2 ?_
  exact end1 rfl rfl ⟨_, rfl, (Loads.blkA many_api_Range hw pK (by simp))⟩ (by
 have e1 : (meetR a.rg b.rg).hi = a.rg.hi := by rw [hh]; rw [if_neg (fun h => h3 (ha2.1 h)), if_pos (hb2.2 h4)]
 have e2 : (meetR a.rg b.rg).opn = false := by rw [ho]; exact decide_eq_false h2
 refine ⟨⟨meetR a.rg b.rg, .slice a10 (maxB a.rg.lo b.rg.lo).length c10, .slice a38 (a.rg.hi).length c38⟩, by rw [RgV.cells, e2], rfl, by intro u hu; simp [RgV.cells] at hu; rcases hu with rfl | rfl | rfl <;> rfl, ?_⟩
 unfold rgParts
 simp only [e1]
 have hz := (hw.b [blk b2 _ _, blk b3 _ _, blk b4 _ _, blk b5 _ _, row 5 1 (.slice a10 _ _) _ _, row 5 1 (.slice a38 _ _) _ _]).tail.tail.tail.tail
 exact hz)
 refine z2 ?_
 refine lD one_sl_uint8 hw ?_
 refine z1 ?_
 refine lD one_sl_uint8 hw ?_
 refine x_call rfl rfl trivial cal_ref04_lesser rfl (ct_ref04_lesser hw (hah.of sF) (hbh.of sF) ha.sh hb.sh) rfl (fun w v16 hv => ?_)
 have hw : Sat G (row 5 1 v16 _ _ :: _) w := hv
 obtain ⟨a16, c16, rfl⟩ := row_form hw
 refine z1 ?_
 refine x_st1 (l' := [.slice a10 (maxB a.rg.lo b.rg.lo).length c10, .slice a16 (minB a.rg.hi b.rg.hi).length c16, .bool false]) rfl trivial rfl rfl one_sl_uint8 rfl hw pK rfl rfl rfl (fun w hw => ?_)
 refine z3 ?_
 refine x_ld rfl rfl trivial rfl (Loads.blkA many_api_Range hw pK (by simp)) ?_
 refine x_stN (cs := [.slice a10 (maxB a.rg.lo b.rg.lo).length c10, .slice a16 (minB a.rg.hi b.rg.hi).length c16, .bool false]) (l' := [.slice a10 (maxB a.rg.lo b.rg.lo).length c10, .slice a16 (minB a.rg.hi b.rg.hi).length c16, .bool false]) rfl trivial rfl rfl many_api_Range rfl (by intro u hu; simp at hu; rcases hu with rfl | rfl | rfl <;> rfl) hw pK (by simp) rfl (by kernel_rfl) (fun w hw => ?_)
 refine z2 ?_
 exact end1 rfl rfl ⟨_, rfl, (Loads.blkA many_api_Range hw pK (by simp))⟩ (by
 have e1 : (meetR a.rg b.rg).hi = minB a.rg.hi b.rg.hi := by rw [hh]; rw [if_neg (fun h => h3 (ha2.1 h)), if_neg (fun h => h4 (hb2.1 h))]
 have e2 : (meetR a.rg b.rg).opn = false := by rw [ho]; exact decide_eq_false h2
 refine ⟨⟨meetR a.rg b.rg, .slice a10 (maxB a.rg.lo b.rg.lo).length c10, .slice a16 (minB a.rg.hi b.rg.hi).length c16⟩, by rw [RgV.cells, e2], rfl, by intro u hu; simp [RgV.cells] at hu; rcases hu with rfl | rfl | rfl <;> rfl, ?_⟩
 unfold rgParts
 simp only [e1]
 have hz := (hw.b [blk b2 _ _, blk b3 _ _, blk b4 _ _, blk b5 _ _, row 5 1 (.slice a10 _ _) _ _, row 5 1 (.slice a16 _ _) _ _]).tail.tail.tail.tail
 exact hz)
end
def runC (x : Int × Int) : List Value := [.int .i64 x.1, .int .i64 x.2]
def RunOk (x : Int × Int) : Prop := -1099511627776 ≤ x.1 ∧ x.1 ≤ 1099511627776 ∧ -1099511627776 ≤ x.2 ∧ x.2 ≤ 1099511627776
def clipR (r x : Int × Int) : Int × Int := (max x.1 r.1, min x.2 r.2)
def withinL (r : Int × Int) (rs : List (Int × Int)) : List (Int × Int) := (rs.map (clipR r)).filter fun x => decide (x.1 ≤ x.2)
theorem withinL_snoc (r : Int × Int) (rs : List (Int × Int)) (x : Int × Int) : withinL r (rs ++ [x]) = withinL r rs ++ (if (clipR r x).1 ≤ (clipR r x).2 then [clipR r x] else []) := by
 unfold withinL
 rw [List.map_append, List.filter_append]
 by_cases h : (clipR r x).1 ≤ (clipR r x).2 <;> simp [h]
theorem runC_z (rs : List (Int × Int)) : ∀ r ∈ rs.map runC, r.length = 2 := fun r hr => by
 obtain ⟨x, _, rfl⟩ := List.mem_map.1 hr; rfl
theorem withinL_append (r : Int × Int) (l l' : List (Int × Int)) : withinL r (l ++ l') = withinL r l ++ withinL r l' := by
 unfold withinL; rw [List.map_append, List.filter_append]
theorem withinL_at {r x : Int × Int} {rs : List (Int × Int)} {k : Nat} (hx : rs[k]? = some x) (hc : (clipR r x).1 ≤ (clipR r x).2) : (withinL r rs)[(withinL r (rs.take k)).length]? = some (clipR r x) := by
 have hk : k < rs.length := (List.getElem?_eq_some_iff.1 hx).1
 have e : rs = rs.take k ++ ([x] ++ rs.drop (k + 1)) := by
  have h1 := List.take_append_drop k rs
  rw [List.drop_eq_getElem_cons hk] at h1
  have h2 : rs[k] = x := by rw [List.getElem?_eq_getElem hk] at hx; exact Option.some.inj hx
  rw [h2] at h1
  exact h1.symm
 have e2 : withinL r rs = withinL r (rs.take k) ++ ([clipR r x] ++ withinL r (rs.drop (k + 1))) := by
  conv => lhs; rw [e]
  rw [withinL_append, withinL_append]
  have : withinL r [x] = [clipR r x] := by unfold withinL; simp [hc]
  rw [this]
 rw [e2, List.getElem?_append_right (Nat.le_refl _), Nat.sub_self]
 rfl
theorem withinL_step {r x : Int × Int} {rs : List (Int × Int)} {k : Nat} (hx : rs[k]? = some x) : withinL r (rs.take (k + 1)) = withinL r (rs.take k) ++ (if (clipR r x).1 ≤ (clipR r x).2 then [clipR r x] else []) := by
 rw [List.take_add_one, hx]; exact withinL_snoc _ _ _
def WPre (r : Int × Int) (rs : List (Int × Int)) (k : Nat) (args : List Value) (_ : List Assn) : Prop := ∃ x, (withinL r rs)[k]? = some x ∧ args = [.agg (runC x).toArray]
theorem yield_or {v : Value} {A B : Prop} (h : (v = .bool true ∧ A) ∨ (v = .bool false ∧ B)) : ∃ b : Bool, v = .bool b ∧ (b = true → A) ∧ (b = false → B) := by
 rcases h with ⟨rfl, h⟩ | ⟨rfl, h⟩
 ·exact ⟨true, rfl, fun _ => h, fun h => by cases h⟩
 exact ⟨false, rfl, (fun h => by cases h), fun _ => h⟩
section
variable {G : Gh} {L R : List Assn} {w : World}
theorem ct_runs_with_int {n a b : Int} (hw : Sat G L w) : Calls Tryz.prog 167 #[.int .u64 n, .agg #[.int .i64 a, .int .i64 b]] w (Ret fun r w' => (∃ m, r = .int .u64 m) ∧ Sat G L w') := by
 refine calls_of_x (args := [_, _]) Tryz.func167 rfl Tryz.ntmps167 rfl rfl ?_
 refine z2 ?_
 refine x_box rfl rfl trivial rfl rfl hw rfl (fun w b3 hw => ?_)
 refine z5 ?_
 refine lD one_int hw ?_
 refine x_conv rfl rfl trivial (by kernel_rfl) U_int64 U_runs_many rfl ?_
 refine z1 ?_
 refine lD one_int hw ?_
 refine x_conv rfl rfl trivial (by kernel_rfl) U_int64 U_runs_many rfl ?_
 refine x_sub rfl rfl trivial rfl rfl ?_
 refine z7 ?_
 refine x_sub rfl rfl trivial rfl rfl ?_
 refine z2 ?_
 refine x_if rfl (fun h1 => ?_) (fun h1 => ?_)
 ·
  refine z5 ?_
  exact end1 rfl rfl rfl ⟨⟨_, rfl⟩, hw.tail⟩
 refine z5 ?_
 refine x_add rfl rfl trivial rfl rfl ?_
 refine x_add rfl rfl trivial rfl rfl ?_
 refine z3 ?_
 exact end1 rfl rfl rfl ⟨⟨_, rfl⟩, hw.tail⟩
theorem ct_runs_Set_int_within {q : Value} {a b : Int} (hw : Sat G L w) (hq : ∃ z, q = .pointer z) : Calls Tryz.prog 186 #[q, .agg #[.int .i64 a, .int .i64 b]] w (Ret fun r w' => ∃ b2 b3, r = .func (.func 194) #[] #[.pointer (some ⟨b2, 0, none⟩), .pointer (some ⟨b3, 0, none⟩)] ∧ Sat G (blk b2 [q] 82 :: blk b3 [.int .i64 a, .int .i64 b] 232 :: L) w') := by
 obtain ⟨z, rfl⟩ := hq
 refine calls_of_x (args := [_, _]) Tryz.func186 rfl Tryz.ntmps186 rfl rfl ?_
 refine z2 ?_
 refine x_box rfl rfl trivial rfl rfl hw rfl (fun w b2 hw => ?_)
 refine x_box rfl rfl trivial rfl rfl hw rfl (fun w b3 hw => ?_)
 refine z4 ?_
 refine x_mkf (v1 := #[]) (v2 := #[.pointer (some ⟨b2, 0, none⟩), .pointer (some ⟨b3, 0, none⟩)]) rfl rfl trivial (by intro z hz; simp at hz; rcases hz with rfl | rfl <;> exact ⟨_, rfl⟩) (by simp) (by simp only [List.map_toArray, List.map_cons, List.map_nil]; rfl) ?_
 refine z3 ?_
 exact end1 rfl rfl rfl ⟨b2, b3, rfl, hw.b [blk b2 _ _, blk b3 _ _]⟩
theorem it_within {rs : List (Int × Int)} {a b : Int} {b2 b3 qb : Nat} {v : Value} (hok : rs.length ≤ 1000000) : Iter Tryz.prog 194 [.pointer (some ⟨b2, 0, none⟩), .pointer (some ⟨b3, 0, none⟩)] G (blk b2 [.pointer (some ⟨qb, 0, none⟩)] 82 :: blk b3 [.int .i64 a, .int .i64 b] 232 :: blk qb [v] 230 :: row 232 2 v rs.length (rs.map runC).flatten :: L) w (withinL (a, b) rs).length (WPre (a, b) rs) (blk b2 [.pointer (some ⟨qb, 0, none⟩)] 82 :: blk b3 [.int .i64 a, .int .i64 b] 232 :: blk qb [v] 230 :: row 232 2 v rs.length (rs.map runC).flatten :: L) := by
 intro l J Jx w hy hw
 have hsl : Knows (row 232 2 v rs.length (rs.map runC).flatten :: L) (SlT 2 v (rs.map runC)) := (SlT.row (by simp) (runC_z rs)).head _
 obtain ⟨sa, sc, h1, -, -⟩ := ((hsl.of sF).at hw).form
 rw [List.length_map] at h1
 subst h1
 refine calls_of_x (args := [_, _, _]) Tryz.func194 rfl Tryz.ntmps194 rfl rfl ?_
 refine z2 ?_
 refine lD one_p_runs_Set_int hw ?_
 refine z2 ?_
 refine lD one_sl_runs_Run_int hw ?_
 refine x_len rfl rfl trivial (by kernel_rfl) U_sl_runs_Run_int rfl ?_
 refine z3 ?_
 refine x_loop (fun m e w => ∃ k : Nat, k ≤ rs.length ∧ m = rs.length - k ∧ e = [(0, .func (.yield l) #[] #[]), (1, .pointer (some ⟨b2, 0, none⟩)), (2, .pointer (some ⟨b3, 0, none⟩)), (9, .slice sa rs.length sc), (10, .int .i64 rs.length), (11, .int .i64 k)] ∧ Sat G (J (withinL (a, b) (rs.take k)).length :: blk b2 [.pointer (some ⟨qb, 0, none⟩)] 82 :: blk b3 [.int .i64 a, .int .i64 b] 232 :: blk qb [.slice sa rs.length sc] 230 :: row 232 2 (.slice sa rs.length sc) rs.length (rs.map runC).flatten :: L) w)
  (m := rs.length) (e₀ := [(0, .func (.yield l) #[] #[]), (1, .pointer (some ⟨b2, 0, none⟩)), (2, .pointer (some ⟨b3, 0, none⟩)), (9, .slice sa rs.length sc), (10, .int .i64 rs.length), (11, .int .i64 (0 : Nat))]) sB
  ⟨0, Nat.zero_le _, rfl, rfl, hw⟩ ?_
 rintro m e w ⟨k, hk, rfl, rfl, hw⟩
 refine z5 ?_
 refine x_if rfl (fun h1 => ?_) (fun h1 => ?_)
 ·
  have hk' : k < rs.length := by omega
  obtain ⟨x, hx⟩ : ∃ x, rs[k]? = some x := ⟨_, List.getElem?_eq_getElem hk'⟩
  have hxr : (rs.map runC)[k]? = some (runC x) := by rw [List.getElem?_map, hx]; rfl
  obtain ⟨bb, oo, rfl⟩ := ((hsl.of sF).at hw).nn (by rw [List.length_map]; omega)
  refine z5 ?_
  refine x_idx rfl rfl trivial U_sl_runs_Run_int sz_runs_Run_int rfl rfl ⟨by omega, by omega⟩ ?_
  refine x_ld rfl rfl trivial rfl (Loads.many many_runs_Run_int rfl (by rw [Int.toNat_natCast]; exact ((hsl.of sF).at hw).at hxr)) ?_
  refine x_alloc rfl rfl trivial z_runs_Run_int hw rfl (fun w b5 hw => ?_)
  refine x_stN (cs := runC x) (l' := [.int .i64 x.1, .int .i64 x.2]) rfl trivial rfl rfl many_runs_Run_int rfl (by intro u hu; simp [runC] at hu; rcases hu with rfl | rfl <;> rfl) hw pK (by simp [runC]) rfl rfl (fun w hw => ?_)
  refine z2 ?_
  refine x_draw [0, 1, 2, 3, 4, 5, 6, 7, 8, 9, 10, 11, 12, 13] mixed (by kernel_rfl) ?_
  replace hw := hw.drawn (w.drawn + 1)
  refine z1 ?_
  refine lD one_int hw ?_
  refine z1 ?_
  refine lD one_int hw ?_
  refine x_max2 rfl rfl trivial rfl rfl ?_
  refine z1 ?_
  refine lD one_int hw ?_
  refine z1 ?_
  refine lD one_int hw ?_
  refine x_min2 rfl rfl trivial rfl rfl ?_
  refine z1 ?_
  refine x_st1P (l' := [_, _]) rfl trivial rfl rfl one_int rfl hw pK rfl rfl (fun w hw q' hq => ?_) (fun w hw => ?_)
  ·
   have hq := pend_mem (l := [8]) (by kernel_rfl) hq
   simp only [List.mem_cons, List.not_mem_nil, or_false] at hq
   subst hq
   exact chk_ld rfl rfl rfl (Loads.blk1 one_int hw pK rfl)
  refine z1 ?_
  refine x_st1 (l' := [_, _]) rfl trivial rfl rfl one_int rfl hw pK rfl rfl (by kernel_rfl) (fun w hw => ?_)
  refine z4 ?_
  refine lD one_int hw ?_
  refine z1 ?_
  refine lD one_int hw ?_
  refine z2 ?_
  refine xl_split (d := 32) rfl (fun h2 => ?_) (fun h2 => ?_)
  ·
   have h2c : (clipR (a, b) x).1 ≤ (clipR (a, b) x).2 := h2
   refine z1 ?_
   refine x_ld rfl rfl ⟨_, rfl, rfl⟩ rfl (Loads.blkA many_runs_Run_int hw pK (by simp)) ?_
   refine x_yield rfl rfl ⟨_, rfl, rfl⟩ rfl rfl (hy (withinL (a, b) (rs.take k)).length _ _ w ((List.getElem?_eq_some_iff.1 (withinL_at hx h2c)).1) ⟨_, withinL_at hx h2c, rfl⟩ (hw.pick (A := J _) pK)) rfl (fun w v35 hv => ?_)
   obtain ⟨bq, rfl, hb1, hb2⟩ := yield_or hv
   refine x_not rfl rfl ⟨_, rfl, rfl⟩ rfl ?_
   refine z2 ?_
   refine x_cond rfl (fun h3 => ?_) (fun h3 => ?_)
   ·
    refine x_ret ?_
    exact end0 rfl rfl (.inr ((hb2 (by simpa using h3)).b [blk b5 _ _, Jx, blk b2 _ _, blk b3 _ _, blk qb _ _, row _ _ _ _ _]).tail)
   refine z5 ?_
   have hw := ((hb1 (by simpa using h3)).b [blk b5 _ _, J _, blk b2 _ _, blk b3 _ _, blk qb _ _, row _ _ _ _ _]).tail
   refine ⟨rs.length - (k + 1), by omega, [(0, _), (1, _), (2, _), (9, _), (10, _), (11, .int .i64 (k + 1 : Nat))], sB, k + 1, by omega, rfl, rfl, ?_⟩
   rw [withinL_step hx, if_pos h2c, List.length_append]
   exact hw
  have h2c : ¬ (clipR (a, b) x).1 ≤ (clipR (a, b) x).2 := h2
  refine z6 ?_
  refine x_cond_false rfl ?_
  refine z5 ?_
  have hw := (hw.b [blk b5 _ _, J _, blk b2 _ _, blk b3 _ _, blk qb _ _, row _ _ _ _ _]).tail
  refine ⟨rs.length - (k + 1), by omega, [(0, _), (1, _), (2, _), (9, _), (10, _), (11, .int .i64 (k + 1 : Nat))], sB, k + 1, by omega, rfl, rfl, ?_⟩
  rw [withinL_step hx, if_neg h2c, List.append_nil]
  exact hw
 refine z1 ?_
 exact end0 rfl rfl (.inl (by
 rw [List.take_of_length_le (by omega)] at hw
 exact hw))
end
theorem leave_dblk {P : Program} {n : Nat} {fn : Func} {Q : Value → World → Prop} {e : Env} {D : Nat} {ds : List Value} {G : Gh} {L R : List Assn} {w : World} (hw : Sat G L w) (hp : Pick (dblk D) L R) (h : ∀ w', Sat G R w' → Leave P n fn Q e ds w') : Leave P n fn Q e (.pointer (some ⟨D, 0, none⟩) :: ds) w :=
 leave_mark ((hw.pick hp).pt_head) (h _ ((putObj_set (hw.pick hp) _).tail))
def gapsGo (hi : Int) : List (Int × Int) → Int → List (Int × Int)
 | [], lo => [(lo, hi)]
 | x :: ws, lo => (if lo < x.1 then [(lo, x.1 - 1)] else []) ++ (if x.2 = hi then [] else gapsGo hi ws (x.2 + 1))
theorem withinL_ok {r x : Int × Int} {rs : List (Int × Int)} {k : Nat} (h : (withinL r rs)[k]? = some x) : x.1 ≤ x.2 ∧ r.1 ≤ x.1 ∧ x.2 ≤ r.2 := by
 have hm := List.mem_of_getElem? h
 unfold withinL at hm
 obtain ⟨h1, h2⟩ := List.mem_filter.1 hm
 obtain ⟨y, _, rfl⟩ := List.mem_map.1 h1
 unfold clipR at h2 ⊢
 simp at h2 ⊢
 omega
def GPre (gs : List (Int × Int)) (k : Nat) (args : List Value) (_ : List Assn) : Prop := ∃ x, gs[k]? = some x ∧ args = [.agg (runC x).toArray]
theorem drop_at {α : Type} {l r : List α} {x : α} {g : Nat} (h : l.drop g = x :: r) : l[g]? = some x ∧ l.drop (g + 1) = r ∧ g < l.length := by
 have h1 : (l.drop g)[0]? = some x := by rw [h]; rfl
 rw [List.getElem?_drop, Nat.add_zero] at h1
 refine ⟨h1, ?_, (List.getElem?_eq_some_iff.1 h1).1⟩
 rw [← List.drop_drop, h]; rfl
theorem drop_cons {α : Type} {l : List α} {k : Nat} {x : α} (h : l[k]? = some x) : l.drop k = x :: l.drop (k + 1) := by
 have hk := (List.getElem?_eq_some_iff.1 h).1
 rw [List.drop_eq_getElem_cons hk]
 rw [List.getElem?_eq_getElem hk] at h
 rw [Option.some.inj h]
theorem drop_nil {α : Type} {l : List α} {g : Nat} (h : l.drop g = []) (hg : g ≤ l.length) : g = l.length := by
 have := congrArg List.length h
 rw [List.length_drop, List.length_nil] at this
 omega
section
variable {G : Gh} {L R : List Assn} {w : World}
theorem ct_runs_Set_int_gaps {q : Value} {a b : Int} (hw : Sat G L w) (hq : ∃ z, q = .pointer z) : Calls Tryz.prog 166 #[q, .agg #[.int .i64 a, .int .i64 b]] w (Ret fun r w' => ∃ b2 b3, r = .func (.func 185) #[] #[.pointer (some ⟨b2, 0, none⟩), .pointer (some ⟨b3, 0, none⟩)] ∧ Sat G (blk b2 [q] 82 :: blk b3 [.int .i64 a, .int .i64 b] 232 :: L) w') := by
 obtain ⟨z, rfl⟩ := hq
 refine calls_of_x (args := [_, _]) Tryz.func166 rfl Tryz.ntmps166 rfl rfl ?_
 refine z2 ?_
 refine x_box rfl rfl trivial rfl rfl hw rfl (fun w b2 hw => ?_)
 refine x_box rfl rfl trivial rfl rfl hw rfl (fun w b3 hw => ?_)
 refine z4 ?_
 refine x_mkf (v1 := #[]) (v2 := #[.pointer (some ⟨b2, 0, none⟩), .pointer (some ⟨b3, 0, none⟩)]) rfl rfl trivial (by intro z hz; simp at hz; rcases hz with rfl | rfl <;> exact ⟨_, rfl⟩) (by simp) (by simp only [List.map_toArray, List.map_cons, List.map_nil]; rfl) ?_
 refine z3 ?_
 exact end1 rfl rfl rfl ⟨b2, b3, rfl, hw.b [blk b2 _ _, blk b3 _ _]⟩
def gapJ (Jo : Nat → Assn) (gs : List (Int × Int)) (ws : List (Int × Int)) (b : Int) (c3 b3 lo : Nat) (k : Nat) : Assn :=
 ex fun z : Int × Nat => lift (gs.drop z.2 = gapsGo b (ws.drop k) z.1 ∧ z.2 ≤ gs.length ∧ -1099511627776 ≤ z.1 ∧ z.1 ≤ 1099511627777) (both [Jo z.2, blk c3 [.int .i64 z.1, .int .i64 b] 232, blk b3 [.func (.yield lo) #[] #[]] 253])
theorem it_gaps {rs : List (Int × Int)} {a b : Int} {c2 c3 qb : Nat} {v : Value} (hok : rs.length ≤ 1000000) (hab : RunOk (a, b)) : Iter Tryz.prog 185 [.pointer (some ⟨c2, 0, none⟩), .pointer (some ⟨c3, 0, none⟩)] G (blk c2 [.pointer (some ⟨qb, 0, none⟩)] 82 :: blk c3 [.int .i64 a, .int .i64 b] 232 :: blk qb [v] 230 :: row 232 2 v rs.length (rs.map runC).flatten :: L) w (gapsGo b (withinL (a, b) rs) a).length (GPre (gapsGo b (withinL (a, b) rs) a)) (blk qb [v] 230 :: row 232 2 v rs.length (rs.map runC).flatten :: L) := by
 intro lo Jo Jx w hy hw
 obtain ⟨gs, hgs⟩ : ∃ gs, gs = gapsGo b (withinL (a, b) rs) a := ⟨_, rfl⟩
 rw [← hgs] at hy ⊢
 have hab' : -1099511627776 ≤ a ∧ a ≤ 1099511627776 ∧ -1099511627776 ≤ b ∧ b ≤ 1099511627776 := hab
 clear hab
 refine calls_of_x (args := [_, _, _]) Tryz.func185 rfl Tryz.ntmps185 rfl rfl ?_
 refine z2 ?_
 refine x_box rfl rfl trivial rfl rfl hw rfl (fun w b3 hw => ?_)
 refine z4 ?_
 refine lD one_p_runs_Set_int hw ?_
 refine x_ld rfl rfl trivial rfl (Loads.blkA many_runs_Run_int hw pK (by simp)) ?_
 refine x_call rfl rfl trivial cal_runs_Set_int_within rfl (ct_runs_Set_int_within hw ⟨_, rfl⟩) rfl (fun w v7 hv => ?_)
 obtain ⟨w2, w3, rfl, hw⟩ := hv
 refine z2 ?_
 have hw := (hw.b [Jo 0, blk c3 _ _, blk b3 _ _, blk w2 _ _, blk w3 _ _, blk qb _ _, row _ _ _ _ _])
 have hw := Sat.ex_in (F := fun z : Int × Nat => lift (gs.drop z.2 = gapsGo b ((withinL (a, b) rs).drop 0) z.1 ∧ z.2 ≤ gs.length ∧ -1099511627776 ≤ z.1 ∧ z.1 ≤ 1099511627777) (both [Jo z.2, blk c3 [.int .i64 z.1, .int .i64 b] 232, blk b3 [.func (.yield lo) #[] #[]] 253])) (a, 0) (Sat.lift_in ⟨hgs, Nat.zero_le _, by omega, by omega⟩ (Sat.both_in (M := [_, _, _]) hw))
 refine x_range (e₀ := [(2, .pointer (some ⟨c3, 0, none⟩)), (3, .pointer (some ⟨b3, 0, none⟩))]) (gapJ Jo gs (withinL (a, b) rs) b c3 b3 lo) (ex fun q : Bool => if q = true then Jo gs.length else Jx) [] rfl cal_runs_Set_int_within_1 rfl sG rfl hw (fun k args M h => by obtain ⟨x, _, rfl⟩ := h; rfl) (it_within hok) ?_ ?_ ?_ ?_
 ·
  clear hw
  intro l D1 o k args M w hk hpre hw
  obtain ⟨x, hx, rfl⟩ := hpre
  have hxo := withinL_ok hx
  simp only at hxo
  obtain ⟨⟨z, g⟩, hw⟩ := Sat.ex_out hw
  obtain ⟨hz, hw⟩ := Sat.lift_out hw
  have hw := Sat.both_out hw
  simp only [List.cons_append, List.nil_append] at hw hz
  obtain ⟨hz1, hz2, hz3, hz4⟩ := hz
  rw [drop_cons hx] at hz1
  unfold gapsGo at hz1
  refine z1 ?_
  refine x_alloc rfl rfl trivial z_runs_Run_int hw rfl (fun w b4 hw => ?_)
  refine x_stN (cs := runC x) (l' := [.int .i64 x.1, .int .i64 x.2]) rfl trivial rfl rfl many_runs_Run_int rfl (by intro u hu; simp [runC] at hu; rcases hu with rfl | rfl <;> rfl) hw pK (by simp [runC]) rfl rfl (fun w hw => ?_)
  refine xl_nil ?_
  refine ⟨_, hw.pick (A := pt l o) pK, fun o' w hw => ?_⟩
  refine z1 ?_
  refine x_join (fun e w => ∃ g' : Nat, e = [(2, .pointer (some ⟨c3, 0, none⟩)), (3, .pointer (some ⟨b3, 0, none⟩)), (4, .pointer (some ⟨b4, 0, none⟩))] ∧ (gs.drop g' = (if x.2 = b then [] else gapsGo b ((withinL (a, b) rs).drop (k + 1)) (x.2 + 1)) ∧ g' ≤ gs.length) ∧ Sat G (Jo g' :: blk c3 [.int .i64 z, .int .i64 b] 232 :: blk b4 [.int .i64 x.1, .int .i64 x.2] 232 :: blk b3 [.func (.yield lo) #[] #[]] 253 :: pt l o' :: dblk D1 :: M) w) ?_ ?_
  ·
   refine z3 ?_
   refine lD one_int hw ?_
   refine z1 ?_
   refine lD one_int hw ?_
   refine z2 ?_
   refine xl_split (d := 14) rfl (fun h1 => ?_) (fun h1 => ?_)
   ·
    rw [if_pos (by omega)] at hz1
    obtain ⟨hg1, hg2, hg3⟩ := drop_at hz1
    refine lD one_funcruns_Run_int_bool hw ?_
    refine z1 ?_
    refine lD one_int hw ?_
    refine z1 ?_
    refine lD one_int hw ?_
    refine x_subi rfl rfl ⟨_, rfl, rfl⟩ rfl rfl (by omega) ?_
    refine x_build (v := .agg (runC (z, x.1 - 1)).toArray) rfl rfl ⟨_, rfl, rfl⟩ rfl (fun w => by kernel_rfl) ?_
    refine x_yield rfl rfl ⟨_, rfl, rfl⟩ rfl rfl (hy g _ _ w hg3 ⟨_, hg1, rfl⟩ (hw.pick (A := Jo _) pK)) rfl (fun w v22 hv => ?_)
    obtain ⟨bq, rfl, hb1, hb2⟩ := yield_or hv
    refine x_not rfl rfl ⟨_, rfl, rfl⟩ rfl ?_
    refine z2 ?_
    refine x_cond rfl (fun h2 => ?_) (fun h2 => ?_)
    ·
     refine x_ret ?_
     exact Sat.ex_in (F := fun q : Bool => if q = true then Jo gs.length else Jx) false (((hb2 (by simpa using h2)).b [blk b4 _ _, blk c3 _ _, blk b3 _ _, Jx, pt l _, dblk D1]).tail.tail.tail)
    refine x_skip ?_
    exact ⟨[(2, _), (3, _), (4, _)], sB, g + 1, rfl, ⟨hg2, hg3⟩, (hb1 (by simpa using h2)).b [Jo _, blk c3 _ _, blk b4 _ _, blk b3 _ _, pt l _, dblk D1]⟩
   rw [if_neg (by omega), List.nil_append] at hz1
   refine z11 ?_
   refine x_cond_false rfl ?_
   refine x_skip ?_
   exact ⟨[(2, _), (3, _), (4, _)], sB, g, rfl, ⟨hz1, hz2⟩, hw.b [Jo _, blk c3 _ _, blk b4 _ _, blk b3 _ _, pt l _, dblk D1]⟩
  clear hw
  rintro e w ⟨g', rfl, ⟨hd1, hd2⟩, hw⟩
  refine z4 ?_
  refine lD one_int hw ?_
  refine z1 ?_
  refine lD one_int hw ?_
  refine z2 ?_
  refine x_if rfl (fun h3 => ?_) (fun h3 => ?_)
  ·
   refine x_ret ?_
   exact Sat.ex_in (F := fun q : Bool => if q = true then Jo gs.length else Jx) true (by rw [if_pos h3] at hd1; rw [drop_nil hd1 hd2] at hw; exact (hw.b [blk b4 _ _, blk c3 _ _, blk b3 _ _, Jo _, pt l _, dblk D1]).tail.tail.tail)
  refine z3 ?_
  refine lD one_int hw ?_
  refine z2 ?_
  refine x_st1 (l' := [_, _]) rfl trivial rfl rfl one_int rfl hw pK rfl rfl rfl (fun w hw => ?_)
  refine xl_nil ?_
  rw [if_neg h3] at hd1
  have hw := (hw.b [blk b4 _ _, Jo _, blk c3 _ _, blk b3 _ _, pt l _, dblk D1]).tail
  exact Sat.ex_in (F := fun z : Int × Nat => lift (gs.drop z.2 = gapsGo b ((withinL (a, b) rs).drop (k + 1)) z.1 ∧ z.2 ≤ gs.length ∧ -1099511627776 ≤ z.1 ∧ z.1 ≤ 1099511627777) (both [Jo z.2, blk c3 [.int .i64 z.1, .int .i64 b] 232, blk b3 [.func (.yield lo) #[] #[]] 253])) (x.2 + 1, g') (Sat.lift_in ⟨hd1, hd2, by omega, by omega⟩ (Sat.both_in (M := [_, _, _]) hw))
 ·
  clear hw
  intro D1 w hw
  obtain ⟨⟨z, g⟩, hw⟩ := Sat.ex_out hw
  obtain ⟨hz, hw⟩ := Sat.lift_out hw
  have hw := Sat.both_out hw
  simp only [List.cons_append, List.nil_append] at hw hz
  obtain ⟨hz1, hz2, hz3, hz4⟩ := hz
  rw [List.drop_length] at hz1
  obtain ⟨hg1, hg2, hg3⟩ := drop_at (show gs.drop g = (z, b) :: [] from hz1)
  refine z1 ?_
  refine lD one_funcruns_Run_int_bool hw ?_
  refine x_ld rfl rfl trivial rfl (Loads.blkA many_runs_Run_int hw pK (by simp)) ?_
  refine x_yield rfl rfl trivial rfl rfl (hy g [.agg (runC (z, b)).toArray] _ w hg3 ⟨_, hg1, rfl⟩ (hw.pick (A := Jo _) pK)) rfl (fun w v36 hv => ?_)
  have hge := drop_nil hg2 hg3
  have hw := hv.elim (fun h => Sat.ex_in (F := fun q : Bool => if q = true then Jo gs.length else Jx) true (by have h2 := h.2; rw [hge] at h2; exact h2)) (fun h => Sat.ex_in (F := fun q : Bool => if q = true then Jo gs.length else Jx) false h.2)
  refine xl_nil ?_
  refine bodyEnd_leave rfl ?_
  refine leave_dblk hw pK (fun w hw => ?_)
  exact leave0 rfl (by
 obtain ⟨q, hw⟩ := Sat.ex_out hw
 cases q
 ·have hw : Sat G (Jx :: _) w := hw
  have hz := (hw.b [blk c3 _ _, blk b3 _ _, blk w2 _ _, blk w3 _ _, blk c2 _ _, Jx, blk qb _ _, row _ _ _ _ _]).tail.tail.tail.tail.tail
  exact .inr hz
 ·have hw : Sat G (Jo gs.length :: _) w := hw
  have hz := (hw.b [blk c3 _ _, blk b3 _ _, blk w2 _ _, blk w3 _ _, blk c2 _ _, Jo _, blk qb _ _, row _ _ _ _ _]).tail.tail.tail.tail.tail
  exact .inl hz)
 ·
  clear hw
  intro D1 w hw
  refine bodyEnd_leave rfl ?_
  refine leave_dblk hw pK (fun w hw => ?_)
  exact leave0 rfl (by
 obtain ⟨q, hw⟩ := Sat.ex_out hw
 cases q
 ·have hw : Sat G (Jx :: _) w := hw
  have hz := (hw.b [blk w2 _ _, blk w3 _ _, blk c2 _ _, Jx, blk qb _ _, row _ _ _ _ _]).tail.tail.tail
  exact .inr hz
 ·have hw : Sat G (Jo gs.length :: _) w := hw
  have hz := (hw.b [blk w2 _ _, blk w3 _ _, blk c2 _ _, Jo _, blk qb _ _, row _ _ _ _ _]).tail.tail.tail
  exact .inl hz)
 intro id A hA; cases hA
end
section
variable {P : Program} {n : Nat} {ops : Array Oper} {dr : Bool} {done r : List Nat} {K : Env → World → Prop} {e : Env} {w : World} {i d : Nat} {t s s' : TypeId} {p : String} {af : Array Edge} {g : Option (Nat × Bool)} {x y : Operand} {G : Gh} {L R : List Assn}
theorem x_appZ {c : TypeId} {kn kq : IntKind} {z bytes k : Nat} (ho : ops[i]? = some ⟨some d, .call ⟨.builtin .append, #[x, y], #[s, s']⟩, t, p, af, g⟩) (hd : Nat.blt d n = true) (hg : Gd ops e g) (hs : P.underlying s = some (.slice c)) (hs' : P.underlying s' = some (.int kn)) (hzc : (P.info? c).map (·.size) = some z) (hz : 0 < z)
  (hbc : (P.info? c).map (·.bytes) = some bytes) (hz0 : (zeroOf P c).map (·.size) = some z) (hx : ev e x = some (.slice none 0 0)) (hy : ev e y = some (.int kq (k : Nat))) (hk : 0 < k) (hw : Sat G L w)
  (h63 : k ≤ maxLen) (hby : k * bytes ≤ 140737488355328) (hpd : pend P ops dr done i = [])
  (h : ∀ w' b cap cells, k ≤ cap → cap ≤ maxLen → cells.length = cap * z → Sat G (blk b cells c :: L) w' → XL P n ops dr (i :: done) r K ((d, .slice (some ⟨b, 0, none⟩) k cap) :: e) w') : XL P n ops dr done (i :: r) K e w := by
 have hsmall : k ≤ 9223372036854775807 := by simp only [maxLen] at h63; omega
 cases hi : P.info? c with
 | none => simp [hi] at hzc
 | some inf =>
  have hsz : inf.size = z := by simpa [hi] using hzc
  have hbb : inf.bytes = bytes := by simpa [hi] using hbc
  cases hzz : inf.zero with
  | none => simp [zeroOf, hi, hzz] at hz0
  | some zv =>
   have hzs : zv.cells.size = z := by simpa [zeroOf, hi, hzz] using hz0
   have hrr := Go.Lib.run_append_nil_zeros (P := P) w s s' t c inf zv kq kn hs hs' hi hzz k hk (by omega) (by omega) (by rw [hbb]; omega)
   have hge := grownCap_ge w k 0 c
   have hcm : grownCap w k 0 c ≤ maxLen := grownCap_le_maxLen w k 0 c h63
   have h2 := (hw.drawn (w.drawn + 1)).push (.cells (Builtin.zeroCells zv.cells k ++ Builtin.zeroCells zv.cells (grownCap w k 0 c - k)) c (0, 0))
   have e1 : Builtin.zeroCells zv.cells k ++ Builtin.zeroCells zv.cells (grownCap w k 0 c - k) = ((Builtin.zeroCells zv.cells k).toList ++ (Builtin.zeroCells zv.cells (grownCap w k 0 c - k)).toList).toArray := by apply Array.ext'; simp
   refine xl_eff ho (by simpa [dstOk] using hd) hg (ρ := rh e) (by intro z hZ; simp [Op.operands, Call.operands] at hZ; exact oh2 hx hy hZ) rfl (v := .slice (some ⟨w.heap.size, 0, none⟩) k (grownCap w k 0 c)) (w' := w.drew.alloc (.cells (Builtin.zeroCells zv.cells k ++ Builtin.zeroCells zv.cells (grownCap w k 0 c - k)) c)) ?_ (noPend hpd) (h _ _ _ ((Builtin.zeroCells zv.cells k).toList ++ (Builtin.zeroCells zv.cells (grownCap w k 0 c - k)).toList) hge hcm ?_ ?_)
   ·simp only [execOp, resolve, invoke, builtin, Sem.run_bind, Sem.run_pure, Result.andThen_ok, List.map_toArray, List.map_cons, List.map_nil, rh_of hx, rh_of hy, hrr]
   ·rw [List.length_append, Array.length_toList, Array.length_toList, size_zeroCells, size_zeroCells, hzs, ← Nat.add_mul]
    congr 1; omega
   rw [e1] at h2 ⊢; exact h2
theorem x_appT {c : TypeId} {z bytes m : Nat} {v u : Value} {xs : List Value} {rs : List (List Value)} (ho : ops[i]? = some ⟨some d, .call ⟨.builtin .append, #[x, y], #[s, s]⟩, t, p, af, g⟩) (hd : Nat.blt d n = true) (hg : Gd ops e g) (hs : P.underlying s = some (.slice c)) (hzc : (P.info? c).map (·.size) = some z)
  (hbc : (P.info? c).map (·.bytes) = some bytes) (hz0 : (zeroOf P c).map (·.size) = some z) (hx : ev e x = some v) (hy : ev e y = some u) (hw : Sat G L w) (hp : Pick (row c z v m xs) L R) (hr : SlT z u rs w) (h1 : Ones rs.flatten)
  (h63 : m + rs.length ≤ maxLen) (hby : (m + rs.length) * bytes ≤ 140737488355328) (hpd : pend P ops dr done i = [])
  (h : ∀ w' v', Sat G (row c z v' (m + rs.length) (xs ++ rs.flatten) :: R) w' → XL P n ops dr (i :: done) r K ((d, v') :: e) w') : XL P n ops dr done (i :: r) K e w := by
 rcases hr with ⟨a, rfl, -, rfl⟩ | ⟨b, o, cap, rfl, h2, h3, h4⟩
 ·cases hi : P.info? c with
  | none => simp [hi] at hzc
  | some inf =>
   have hle : ∃ a' c', v = .slice a' m c' ∧ m ≤ c' := by
    obtain ⟨_, h | ⟨b, cap, cur, h, h', _⟩⟩ := row_open (hw.pick hp)
    ·obtain ⟨rfl, rfl, _⟩ := h; exact ⟨none, 0, rfl, Nat.le_refl _⟩
    exact ⟨_, cap, h, h'⟩
   obtain ⟨a', c', rfl, hle⟩ := hle
   have hl : ∀ (x : Addr), (loadCells x 0).run P w = .ok #[] w := fun x => by simpa using run_loadCells_list (P := P) w x [] (by simp)
   have hrr : (Builtin.append_ #[s, s] t #[.slice a' m c', .slice a 0 0]).run P w = .ok (.slice a' m c') w := by
    cases a' <;> cases a <;> simp [Builtin.append_, run_underlying hs, Builtin.lenOf, Builtin.firstCells, sizeOf, typeInfo, hi, hle, storeCells, hl]
   refine xl_eff ho (by simpa [dstOk] using hd) hg (ρ := rh e) (by intro z hZ; simp [Op.operands, Call.operands] at hZ; exact oh2 hx hy hZ) rfl (v := .slice a' m c') (w' := w) ?_ (noPend hpd) (h _ _ (by simpa using hw.pick hp))
   simp only [execOp, resolve, invoke, builtin, Sem.run_bind, Sem.run_pure, Result.andThen_ok, List.map_toArray, List.map_cons, List.map_nil, rh_of hx, rh_of hy, hrr]
 exact x_app (k := rs.length) ho hd hg hs hzc hbc hz0 hx hy hw hp h4 (flatten_length h3) h1 h63 hby hpd h
end
section
variable {G : Gh} {L R : List Assn} {w : World}
theorem ct_slices_Grow_runs {k : Nat} (hw : Sat G L w) (h0 : 0 < k) (hk : k ≤ 1000000000) : Calls Tryz.prog 187 #[.slice none 0 0, .int .i64 k] w (Ret fun r w' => Sat G (row 232 2 r 0 [] :: L) w') := by
 refine calls_of_x (args := [_, _]) Tryz.func187 rfl Tryz.ntmps187 rfl rfl ?_
 refine z10 ?_
 refine x_if rfl (fun h1 => ?_) (fun h1 => ?_)
 ·
  exact absurd h1 (by omega)
 refine z6 ?_
 refine x_cap rfl rfl trivial U_sl_runs_Run_int rfl ?_
 refine z1 ?_
 refine x_len rfl rfl trivial (by kernel_rfl) U_sl_runs_Run_int rfl ?_
 refine z9 ?_
 refine x_if rfl (fun h3 => ?_) (fun h3 => ?_)
 ·
  refine z3 ?_
  refine x_cap rfl rfl trivial U_sl_runs_Run_int rfl ?_
  refine x_cutH rfl rfl trivial U_sl_runs_Run_int szs_runs_Run_int rfl (by simp) rfl ⟨by omega, by omega⟩ ?_
  refine z1 ?_
  refine x_appZ (k := k) rfl rfl trivial U_sl_runs_Run_int U_int sz_runs_Run_int (by decide) by_runs_Run_int zs_runs_Run_int rfl (by show some (Value.int .i64 ((k : Int))) = _; rfl) h0 hw (by simp only [maxLen]; omega) (by omega) rfl (fun w b22 cap cells hc1 hc2 hc3 hw => ?_)
  refine z1 ?_
  refine x_len rfl rfl trivial (by kernel_rfl) U_sl_runs_Run_int rfl ?_
  refine x_cutH rfl rfl trivial U_sl_runs_Run_int szs_runs_Run_int rfl (by simp) rfl ⟨by omega, by omega⟩ ?_
  refine z8 ?_
  exact end1 rfl rfl rfl (row_mk (xs := []) (cur := cells) hw rfl (Nat.zero_le _) hc2 (by simpa using hc3))
 exact absurd h3 (by omega)
def sums (ls : List (List (Int × Int))) : Nat := (ls.map List.length).sum
theorem sums_snoc (ls : List (List (Int × Int))) (l : List (Int × Int)) : sums (ls ++ [l]) = sums ls + l.length := by simp [sums]
theorem sums_take_le : ∀ (ls : List (List (Int × Int))) (k : Nat), sums (ls.take k) ≤ sums ls
 | [], k => by simp
 | l :: ls, 0 => by simp [sums]
 | l :: ls, k + 1 => by
  have := sums_take_le ls k
  simp only [sums, List.take_succ_cons, List.map_cons, List.sum_cons] at this ⊢
  omega
theorem ones_runs (l : List (Int × Int)) : Ones (l.map runC).flatten := fun u hu => by
 obtain ⟨r, hr, hu⟩ := List.mem_flatten.1 hu
 obtain ⟨x, _, rfl⟩ := List.mem_map.1 hr
 simp [runC] at hu
 rcases hu with rfl | rfl <;> rfl
theorem take_step {α : Type} {l : List α} {k : Nat} {x : α} (h : l[k]? = some x) : l.take (k + 1) = l.take k ++ [x] := by rw [List.take_add_one, h]; rfl
theorem ct_slices_Concat_runs {v : Value} {vs : List Value} {ls : List (List (Int × Int))} (hw : Sat G L w) (hv0 : Knows L (SlV v vs)) (hlen : vs.length = ls.length) (hvs : ∀ (k : Nat) (u : Value) (l : List (Int × Int)), vs[k]? = some u → ls[k]? = some l → Knows L (SlT 2 u (l.map runC))) (h0 : 0 < sums ls) (hk : sums ls ≤ 1000000000) (hl9 : ls.length ≤ 1000000) :
  Calls Tryz.prog 168 #[v] w (Ret fun r w' => Sat G (row 232 2 r (sums ls) (ls.flatten.map runC).flatten :: L) w') := by
 obtain ⟨sa, sc, h1⟩ := (hv0.at hw).form
 subst h1
 refine calls_of_x (args := [_]) Tryz.func168 rfl Tryz.ntmps168 rfl rfl ?_
 refine z12 ?_
 refine x_len rfl rfl trivial (by kernel_rfl) U_sl_sl_runs_Run_int rfl ?_
 refine z3 ?_
 refine x_loop (fun m e w => ∃ k : Nat, k ≤ ls.length ∧ m = ls.length - k ∧ e = [(0, .slice sa vs.length sc), (3, .int .i64 (sums (ls.take k) : Nat)), (9, .slice sa vs.length sc), (10, .int .i64 vs.length), (11, .int .i64 k)] ∧ Sat G L w)
  (m := ls.length) (e₀ := [(0, .slice sa vs.length sc), (3, .int .i64 (0 : Nat)), (9, .slice sa vs.length sc), (10, .int .i64 vs.length), (11, .int .i64 (0 : Nat))]) sB
  ⟨0, Nat.zero_le _, rfl, rfl, hw⟩ ?_
 rintro m e w ⟨k, hkl, rfl, rfl, hw⟩
 refine z5 ?_
 refine x_if rfl (fun h1 => ?_) (fun h1 => ?_)
 ·
  have hk' : k < ls.length := by omega
  obtain ⟨x, hx⟩ : ∃ x, ls[k]? = some x := ⟨_, List.getElem?_eq_getElem hk'⟩
  obtain ⟨u, hu⟩ : ∃ u, vs[k]? = some u := ⟨_, List.getElem?_eq_getElem (by omega)⟩
  have hku := hvs k u x hu hx
  obtain ⟨ua, uc, h2, -, -⟩ := (hku.at hw).form
  rw [List.length_map] at h2
  subst h2
  have hs1 : sums (ls.take (k + 1)) = sums (ls.take k) + x.length := by rw [take_step hx]; exact sums_snoc _ _
  have hs2 := sums_take_le ls (k + 1)
  obtain ⟨bb, oo, rfl⟩ := (hv0.at hw).nn (by omega)
  refine z5 ?_
  refine x_idx1 rfl rfl trivial U_sl_sl_runs_Run_int sz_sl_runs_Run_int rfl rfl ⟨by omega, by omega⟩ ?_
  refine x_ld rfl rfl trivial rfl (Loads.one one_sl_runs_Run_int ((hv0.at hw).at (by rw [Int.toNat_natCast]; exact hu))) ?_
  refine z6 ?_
  refine x_len rfl rfl trivial (by kernel_rfl) U_sl_runs_Run_int rfl ?_
  refine z8 ?_
  refine x_if rfl (fun h2 => ?_) (fun h2 => ?_)
  ·
   exact absurd h2 (by omega)
  refine z5 ?_
  exact ⟨ls.length - (k + 1), by omega, [(0, _), (3, .int .i64 (sums (ls.take (k + 1)) : Nat)), (9, _), (10, _), (11, .int .i64 (k + 1 : Nat))], Sub.mk (SubG.cons rfl (SubG.cons (by rw [hs1]; rfl) (SubG.cons rfl (SubG.cons rfl (SubG.cons rfl (SubG.nil _)))))) rfl, k + 1, by omega, rfl, rfl, hw⟩
 have hke : k = ls.length := by omega
 subst hke
 rw [List.take_length]
 refine z4 ?_
 refine x_call rfl rfl trivial cal_slices_Grow_runs_Run_int_runs_Run_int rfl (ct_slices_Grow_runs (k := sums ls) hw h0 hk) rfl (fun w v24 hv => ?_)
 have hw : Sat G (row 232 2 v24 0 [] :: _) w := hv
 refine z6 ?_
 refine x_len rfl rfl trivial (by kernel_rfl) U_sl_sl_runs_Run_int rfl ?_
 refine z3 ?_
 refine x_loop (fun m e w => ∃ (k : Nat) (z : Value), k ≤ ls.length ∧ m = ls.length - k ∧ e = [(6, z), (25, .slice sa vs.length sc), (26, .int .i64 vs.length), (27, .int .i64 k)] ∧ Sat G (row 232 2 z (sums (ls.take k)) ((ls.take k).flatten.map runC).flatten :: L) w)
  (m := ls.length) (e₀ := [(6, v24), (25, .slice sa vs.length sc), (26, .int .i64 vs.length), (27, .int .i64 (0 : Nat))]) sB
  ⟨0, _, Nat.zero_le _, rfl, rfl, hw⟩ ?_
 rintro m e w ⟨k, z, hkl, rfl, rfl, hw⟩
 refine z5 ?_
 refine x_if rfl (fun h3 => ?_) (fun h3 => ?_)
 ·
  have hk' : k < ls.length := by omega
  obtain ⟨x, hx⟩ : ∃ x, ls[k]? = some x := ⟨_, List.getElem?_eq_getElem hk'⟩
  obtain ⟨u, hu⟩ : ∃ u, vs[k]? = some u := ⟨_, List.getElem?_eq_getElem (by omega)⟩
  have hku := hvs k u x hu hx
  have hs1 : sums (ls.take (k + 1)) = sums (ls.take k) + x.length := by rw [take_step hx]; exact sums_snoc _ _
  have hs2 := sums_take_le ls (k + 1)
  have hc1 : ((ls.take (k + 1)).flatten.map runC).flatten = ((ls.take k).flatten.map runC).flatten ++ (x.map runC).flatten := by rw [take_step hx]; simp
  obtain ⟨bb, oo, rfl⟩ := ((hv0.of sF).at hw).nn (by omega)
  refine z5 ?_
  refine x_idx1 rfl rfl trivial U_sl_sl_runs_Run_int sz_sl_runs_Run_int rfl rfl ⟨by omega, by omega⟩ ?_
  refine x_ld rfl rfl trivial rfl (Loads.one one_sl_runs_Run_int (((hv0.of sF).at hw).at (by rw [Int.toNat_natCast]; exact hu))) ?_
  refine z5 ?_
  refine x_appT (m := sums (ls.take k)) (rs := x.map runC) rfl rfl trivial U_sl_runs_Run_int sz_runs_Run_int by_runs_Run_int zs_runs_Run_int rfl rfl hw pK ((hku.of sF).at hw) (ones_runs x) (by rw [List.length_map]; simp only [maxLen]; omega) (by rw [List.length_map]; omega) rfl (fun w v33 hw => ?_)
  refine z6 ?_
  refine ⟨ls.length - (k + 1), by omega, [(6, _), (25, _), (26, _), (27, .int .i64 (k + 1 : Nat))], sB, k + 1, _, by omega, rfl, rfl, ?_⟩
  rw [hs1, hc1]
  rw [List.length_map] at hw
  exact hw
 refine z7 ?_
 exact end1 rfl rfl rfl (by
 have hke : k = ls.length := by omega
 subst hke
 rw [List.take_length] at hw
 exact hw)
end
structure AddS where
 below : List (Int × Int)
 above : List (Int × Int)
 r : Int × Int
def addStep (s : AddS) (x : Int × Int) : AddS :=
 if x.2 < s.r.1 ∧ x.2 + 1 < s.r.1 then ⟨s.below ++ [x], s.above, s.r⟩
 else if s.r.2 < x.1 ∧ s.r.2 < x.1 - 1 then ⟨s.below, s.above ++ [x], s.r⟩
 else ⟨s.below, s.above, (min s.r.1 x.1, max s.r.2 x.2)⟩
def addF (rs : List (Int × Int)) (lo hi : Int) : AddS := rs.foldl addStep ⟨[], [], (lo, hi)⟩
def addR (rs : List (Int × Int)) (lo hi : Int) : List (Int × Int) := (addF rs lo hi).below ++ [(addF rs lo hi).r] ++ (addF rs lo hi).above
theorem addF_snoc (rs : List (Int × Int)) (x : Int × Int) (lo hi : Int) : addF (rs ++ [x]) lo hi = addStep (addF rs lo hi) x := by unfold addF; rw [List.foldl_append]; rfl
theorem addF_step {rs : List (Int × Int)} {k : Nat} {x : Int × Int} (lo hi : Int) (hx : rs[k]? = some x) : addF (rs.take (k + 1)) lo hi = addStep (addF (rs.take k) lo hi) x := by rw [take_step hx, addF_snoc]
structure AddOk (n : Nat) (s : AddS) : Prop where
 r : RunOk s.r
 b : s.below.length + s.above.length ≤ n
theorem addOk {lo hi : Int} (h : RunOk (lo, hi)) {rs : List (Int × Int)} (hrs : ∀ x ∈ rs, RunOk x) : ∀ k, k ≤ rs.length → AddOk k (addF (rs.take k) lo hi) := by
 intro k
 induction k with
 | zero => intro _; exact ⟨h, by simp [addF]⟩
 | succ k ih =>
  intro hk
  have hi' := ih (by omega)
  obtain ⟨x, hx⟩ : ∃ x, rs[k]? = some x := ⟨_, List.getElem?_eq_getElem (by omega)⟩
  have hxo := hrs x (List.mem_of_getElem? hx)
  rw [addF_step lo hi hx]
  obtain ⟨h1, h2⟩ := hi'
  unfold addStep
  repeat' split
  ·exact ⟨h1, by simp; omega⟩
  ·exact ⟨h1, by simp; omega⟩
  refine ⟨?_, by simp; omega⟩
  unfold RunOk at h1 hxo ⊢
  simp only
  omega
section
variable {G : Gh} {L R : List Assn} {w : World}
theorem ct_runs_Set_int_Add {qb : Nat} {v : Value} {rs : List (Int × Int)} {lo hi : Int} (hw : Sat G (blk qb [v] 230 :: row 232 2 v rs.length (rs.map runC).flatten :: L) w) (hlh : lo ≤ hi) (hok : RunOk (lo, hi)) (hrs : ∀ x ∈ rs, RunOk x) (hln : rs.length ≤ 100000) :
  Calls Tryz.prog 136 #[.pointer (some ⟨qb, 0, none⟩), .int .i64 lo, .int .i64 hi] w (Ret fun r w' => (∃ n, r = .int .i64 n) ∧ ∃ v', Sat G (blk qb [v'] 230 :: row 232 2 v' (addR rs lo hi).length ((addR rs lo hi).map runC).flatten :: L) w') := by
 obtain ⟨va, vc, rfl⟩ := row_form (hw.pick (A := row _ _ v _ _) pK)
 have hsl : Knows (row 232 2 (.slice va rs.length vc) rs.length (rs.map runC).flatten :: L) (SlT 2 (.slice va rs.length vc) (rs.map runC)) := (SlT.row (by simp) (runC_z rs)).head _
 refine calls_of_x (args := [_, _, _]) Tryz.func136 rfl Tryz.ntmps136 rfl rfl ?_
 refine z11 ?_
 refine x_if rfl (fun h1 => ?_) (fun h1 => ?_)
 ·
  exact absurd h1 (by omega)
 refine z5 ?_
 refine x_build (v := .agg (runC (lo, hi)).toArray) rfl rfl trivial rfl (fun w => by kernel_rfl) ?_
 refine x_alloc rfl rfl trivial z_runs_Run_int hw rfl (fun w b7 hw => ?_)
 refine x_stN (cs := runC (lo, hi)) (l' := runC (lo, hi)) rfl trivial rfl rfl many_runs_Run_int rfl (by intro u hu; simp [runC] at hu; rcases hu with rfl | rfl <;> rfl) hw pK (by simp [runC]) rfl (by kernel_rfl) (fun w hw => ?_)
 refine z3 ?_
 refine x_alloc rfl rfl trivial z_runs_many hw rfl (fun w b8 hw => ?_)
 refine x_st1 (l' := [.int .u64 0]) rfl trivial rfl rfl one_runs_many rfl hw pK rfl rfl rfl (fun w hw => ?_)
 refine z5 ?_
 refine x_ld rfl rfl trivial rfl (Loads.blkA many_runs_Run_int hw pK (by simp [runC])) ?_
 refine x_call rfl rfl trivial cal_runs_Set_int_gaps rfl (ct_runs_Set_int_gaps hw ⟨_, rfl⟩) rfl (fun w v22 hv => ?_)
 obtain ⟨c2, c3, rfl, hw⟩ := hv
 refine z2 ?_
 have hw := Sat.ex_in (F := fun n : Int => blk b8 [.int .u64 n] 234) 0 (hw.b [blk b8 _ _, blk c2 _ _, blk c3 _ _, blk qb _ _, row _ _ _ _ _, blk b7 _ _])
 refine x_range (e₀ := [(8, .pointer (some ⟨b8, 0, none⟩))]) (fun _ => ex fun n : Int => blk b8 [.int .u64 n] 234) (fun _ => False) [] rfl cal_runs_Set_int_gaps_1 rfl sG rfl hw (fun k args M h => by obtain ⟨x, _, rfl⟩ := h; rfl) (it_gaps (by omega) hok) ?_ ?_ ?_ ?_
 ·
  clear hw
  intro l D1 o k args M w hk hpre hw
  obtain ⟨x, hx, rfl⟩ := hpre
  obtain ⟨n, hw⟩ := Sat.ex_out hw
  refine z1 ?_
  refine x_alloc rfl rfl trivial z_runs_Run_int hw rfl (fun w b9 hw => ?_)
  refine x_stN (cs := runC x) (l' := [.int .i64 x.1, .int .i64 x.2]) rfl trivial rfl rfl many_runs_Run_int rfl (by intro u hu; simp [runC] at hu; rcases hu with rfl | rfl <;> rfl) hw pK (by simp [runC]) rfl rfl (fun w hw => ?_)
  refine xl_nil ?_
  refine ⟨_, hw.pick (A := pt l o) pK, fun o' w hw => ?_⟩
  refine z2 ?_
  refine lD one_runs_many hw ?_
  refine x_ld rfl rfl trivial rfl (Loads.blkA many_runs_Run_int hw pK (by simp)) ?_
  refine x_call rfl rfl trivial cal_runs_with_int rfl (ct_runs_with_int hw) rfl (fun w v26 hv => ?_)
  obtain ⟨⟨m', rfl⟩, hw⟩ := hv
  refine x_st1 (l' := [.int .u64 m']) rfl trivial rfl rfl one_runs_many rfl hw pK rfl rfl rfl (fun w hw => ?_)
  refine xl_nil ?_
  exact Sat.ex_in m' (hw.b [blk b9 _ _, blk b8 _ _, pt l _, dblk D1]).tail
 ·
  clear hw
  intro D1 w hw
  obtain ⟨n, hw⟩ := Sat.ex_out hw
  refine z11 ?_
  refine lD one_sl_runs_Run_int hw ?_
  refine x_len rfl rfl trivial (by kernel_rfl) U_sl_runs_Run_int rfl ?_
  refine z3 ?_
  have hw := row_nil (row_nil hw 232 2) 232 2
  have hw := hw.b [blk b7 _ _, row _ _ (.slice none 0 0) _ _, row _ _ (.slice none 0 0) _ _, blk b8 _ _, dblk D1, blk qb _ _, row _ _ _ _ _]
  refine x_loop (fun m e w => ∃ (k : Nat) (v1 v2 : Value), k ≤ rs.length ∧ m = rs.length - k ∧ e = [(1000000000, .pointer (some ⟨D1, 0, none⟩)), (0, .pointer (some ⟨qb, 0, none⟩)), (7, .pointer (some ⟨b7, 0, none⟩)), (8, .pointer (some ⟨b8, 0, none⟩)), (10, v1), (11, v2), (30, .slice va rs.length vc), (31, .int .i64 rs.length), (32, .int .i64 k)] ∧ Sat G (blk b7 (runC (addF (rs.take k) lo hi).r) 232 :: row 232 2 v1 (addF (rs.take k) lo hi).below.length ((addF (rs.take k) lo hi).below.map runC).flatten :: row 232 2 v2 (addF (rs.take k) lo hi).above.length ((addF (rs.take k) lo hi).above.map runC).flatten :: blk b8 [.int .u64 n] 234 :: dblk D1 :: blk qb [.slice va rs.length vc] 230 :: row 232 2 (.slice va rs.length vc) rs.length (rs.map runC).flatten :: L) w)
   (m := rs.length) (e₀ := [(1000000000, .pointer (some ⟨D1, 0, none⟩)), (0, .pointer (some ⟨qb, 0, none⟩)), (7, .pointer (some ⟨b7, 0, none⟩)), (8, .pointer (some ⟨b8, 0, none⟩)), (10, .slice none 0 0), (11, .slice none 0 0), (30, .slice va rs.length vc), (31, .int .i64 rs.length), (32, .int .i64 (0 : Nat))]) sB
   ⟨0, _, _, Nat.zero_le _, rfl, rfl, hw⟩ ?_
  rintro m e w ⟨k, v1, v2, hk, rfl, rfl, hw⟩
  have hao := addOk hok hrs k hk
  have hst := fun x hx => addF_step (rs := rs) (k := k) (x := x) lo hi hx
  obtain ⟨S, hS⟩ : ∃ S, S = addF (rs.take k) lo hi := ⟨_, rfl⟩
  rw [← hS] at hao hw hst
  obtain ⟨hr, hbl⟩ := hao
  unfold RunOk at hr
  refine z5 ?_
  refine x_if rfl (fun h2 => ?_) (fun h2 => ?_)
  ·
   have hk' : k < rs.length := by omega
   obtain ⟨x, hx⟩ : ∃ x, rs[k]? = some x := ⟨_, List.getElem?_eq_getElem hk'⟩
   have hxo := hrs x (List.mem_of_getElem? hx)
   unfold RunOk at hxo
   have hxr : (rs.map runC)[k]? = some (runC x) := by rw [List.getElem?_map, hx]; rfl
   have hst := hst x hx
   unfold addStep at hst
   obtain ⟨bb, oo, rfl⟩ := ((hsl.of sF).at hw).nn (by rw [List.length_map]; omega)
   refine z5 ?_
   refine x_idx rfl rfl trivial U_sl_runs_Run_int sz_runs_Run_int rfl rfl ⟨by omega, by omega⟩ ?_
   refine x_ld rfl rfl trivial rfl (Loads.many many_runs_Run_int rfl (by rw [Int.toNat_natCast]; exact ((hsl.of sF).at hw).at hxr)) ?_
   refine x_alloc rfl rfl trivial z_runs_Run_int hw rfl (fun w b13 hw => ?_)
   refine x_stN (cs := runC x) (l' := [.int .i64 x.1, .int .i64 x.2]) rfl trivial rfl rfl many_runs_Run_int rfl (by intro u hu; simp [runC] at hu; rcases hu with rfl | rfl <;> rfl) hw pK (by simp [runC]) rfl rfl (fun w hw => ?_)
   refine z5 ?_
   refine lD one_int hw ?_
   refine z1 ?_
   refine lD one_int hw ?_
   refine z2 ?_
   refine xl_and (l1 := [6, 7, 8, 9, 10, 11, 12]) (l2 := [13]) rfl (d := 61) (x.2 < S.r.1 ∧ x.2 + 1 < S.r.1) rfl ?_ ?_
   ·
    refine xl_split (d := 54) rfl (fun h3 => ?_) (fun h3 => ?_)
    ·
     refine z1 ?_
     refine lD one_int hw ?_
     refine x_addi rfl rfl ⟨_, rfl, rfl⟩ rfl rfl (by omega) ?_
     refine z1 ?_
     refine lD one_int hw ?_
     refine z3 ?_
     refine cQ ?_
     exact dC
    refine z8 ?_
    refine cQ ?_
    exact dC
   refine z2 ?_
   refine x_if rfl (fun h4 => ?_) (fun h4 => ?_)
   ·
    refine z2 ?_
    refine x_ld rfl rfl trivial rfl (Loads.blkA many_runs_Run_int hw pK (by simp)) ?_
    refine x_bs1 (cs := runC x) rfl rfl trivial U_sl_runs_Run_int sz_runs_Run_int zs_runs_Run_int (by decide) rfl rfl rfl hw rfl (fun w b64 hw => ?_)
    refine x_app (m := S.below.length) (k := 1) (news := runC x) rfl rfl trivial U_sl_runs_Run_int sz_runs_Run_int by_runs_Run_int zs_runs_Run_int rfl rfl hw (show Pick (row 232 2 v1 _ _) _ _ from pK) (Rd.blk0 hw pK) rfl (by intro u hu; simp [runC] at hu; rcases hu with rfl | rfl <;> rfl) (by simp only [maxLen]; omega) (by omega) rfl (fun w v65 hw => ?_)
    refine z6 ?_
    refine ⟨rs.length - (k + 1), by omega, [(1000000000, _), (0, _), (7, _), (8, _), (10, _), (11, _), (30, _), (31, _), (32, .int .i64 (k + 1 : Nat))], sB, k + 1, _, _, by omega, rfl, rfl, ?_⟩
    rw [hst, if_pos h4]
    have e1 : ((S.below ++ [x]).map runC).flatten = (S.below.map runC).flatten ++ runC x := by simp
    simp only [List.length_append, List.length_singleton, e1]
    exact (hw.b [blk b64 _ _, blk b13 _ _, blk b7 _ _, row _ _ v65 _ _, row _ _ v2 _ _, blk b8 _ _, dblk D1, blk qb _ _, row _ _ _ _ _]).tail.tail
   refine z3 ?_
   refine lD one_int hw ?_
   refine z1 ?_
   refine lD one_int hw ?_
   refine z2 ?_
   refine xl_and (l1 := [6, 7, 8, 9, 10, 11, 12]) (l2 := [13]) rfl (d := 79) (S.r.2 < x.1 ∧ S.r.2 < x.1 - 1) rfl ?_ ?_
   ·
    refine xl_split (d := 72) rfl (fun h5 => ?_) (fun h5 => ?_)
    ·
     refine z1 ?_
     refine lD one_int hw ?_
     refine x_subi rfl rfl ⟨_, rfl, rfl⟩ rfl rfl (by omega) ?_
     refine z1 ?_
     refine lD one_int hw ?_
     refine z3 ?_
     refine cQ ?_
     exact dC
    refine z8 ?_
    refine cQ ?_
    exact dC
   refine z2 ?_
   refine x_if rfl (fun h6 => ?_) (fun h6 => ?_)
   ·
    refine z2 ?_
    refine x_ld rfl rfl trivial rfl (Loads.blkA many_runs_Run_int hw pK (by simp)) ?_
    refine x_bs1 (cs := runC x) rfl rfl trivial U_sl_runs_Run_int sz_runs_Run_int zs_runs_Run_int (by decide) rfl rfl rfl hw rfl (fun w b82 hw => ?_)
    refine x_app (m := S.above.length) (k := 1) (news := runC x) rfl rfl trivial U_sl_runs_Run_int sz_runs_Run_int by_runs_Run_int zs_runs_Run_int rfl rfl hw (show Pick (row 232 2 v2 _ _) _ _ from pK) (Rd.blk0 hw pK) rfl (by intro u hu; simp [runC] at hu; rcases hu with rfl | rfl <;> rfl) (by simp only [maxLen]; omega) (by omega) rfl (fun w v83 hw => ?_)
    refine z6 ?_
    refine ⟨rs.length - (k + 1), by omega, [(1000000000, _), (0, _), (7, _), (8, _), (10, _), (11, _), (30, _), (31, _), (32, .int .i64 (k + 1 : Nat))], sB, k + 1, _, _, by omega, rfl, rfl, ?_⟩
    rw [hst, if_neg h4, if_pos h6]
    have e1 : ((S.above ++ [x]).map runC).flatten = (S.above.map runC).flatten ++ runC x := by simp
    simp only [List.length_append, List.length_singleton, e1]
    exact (hw.b [blk b82 _ _, blk b13 _ _, blk b7 _ _, row _ _ v1 _ _, row _ _ v83 _ _, blk b8 _ _, dblk D1, blk qb _ _, row _ _ _ _ _]).tail.tail
   refine x_draw [0, 1, 2, 3, 4, 5, 6, 7, 8, 9, 10, 11, 12, 13] mixed (by kernel_rfl) ?_
   replace hw := hw.drawn (w.drawn + 1)
   refine z1 ?_
   refine lD one_int hw ?_
   refine z1 ?_
   refine lD one_int hw ?_
   refine x_min2 rfl rfl trivial rfl rfl ?_
   refine z1 ?_
   refine lD one_int hw ?_
   refine z1 ?_
   refine lD one_int hw ?_
   refine x_max2 rfl rfl trivial rfl rfl ?_
   refine z1 ?_
   refine x_st1P (l' := [_, _]) rfl trivial rfl rfl one_int rfl hw pK rfl rfl (fun w hw q' hq => ?_) (fun w hw => ?_)
   ·
    have hq := pend_mem (l := [8]) (by kernel_rfl) hq
    simp only [List.mem_cons, List.not_mem_nil, or_false] at hq
    subst hq
    exact chk_ld rfl rfl rfl (Loads.blk1 one_int hw pK rfl)
   refine z1 ?_
   refine x_st1 (l' := [_, _]) rfl trivial rfl rfl one_int rfl hw pK rfl rfl (by kernel_rfl) (fun w hw => ?_)
   refine z5 ?_
   refine ⟨rs.length - (k + 1), by omega, [(1000000000, _), (0, _), (7, _), (8, _), (10, _), (11, _), (30, _), (31, _), (32, .int .i64 (k + 1 : Nat))], sB, k + 1, _, _, by omega, rfl, rfl, ?_⟩
   rw [hst, if_neg h4, if_neg h6]
   have hz := (hw.b [blk b13 _ _, blk b7 _ _, row _ _ v1 _ _, row _ _ v2 _ _, blk b8 _ _, dblk D1, blk qb _ _, row _ _ _ _ _]).tail
   exact hz
  have hke : k = rs.length := by omega
  subst hke
  rw [List.take_length] at hS
  obtain ⟨a1, c1, rfl⟩ := row_form (hw.pick (A := row _ _ v1 _ _) pK)
  obtain ⟨a2, c2', rfl⟩ := row_form (hw.pick (A := row _ _ v2 _ _) pK)
  refine z5 ?_
  refine x_ld rfl rfl trivial rfl (Loads.blkA many_runs_Run_int hw pK (by simp [runC])) ?_
  refine x_bs1 (cs := runC S.r) rfl rfl trivial U_sl_runs_Run_int sz_runs_Run_int zs_runs_Run_int (by decide) rfl rfl rfl hw rfl (fun w b88 hw => ?_)
  have hw := row_full (z := 2) (m := 1) hw rfl (by simp only [maxLen]; omega)
  refine z1 ?_
  refine x_bsN (cs := [.slice a1 S.below.length c1, .slice (some ⟨b88, 0, none⟩) 1 1, .slice a2 S.above.length c2']) rfl rfl trivial U_sl_sl_runs_Run_int sz_sl_runs_Run_int z_sl_runs_Run_int (by decide) rfl (by kernel_rfl) hw rfl (fun w b90 hw => ?_)
  have hw := row_full (z := 1) (m := 3) hw rfl (by simp only [maxLen]; omega)
  refine x_call rfl rfl trivial cal_slices_Concat_runs_Run_int_runs_Run_int rfl (ct_slices_Concat_runs (vs := [.slice a1 S.below.length c1, .slice (some ⟨b88, 0, none⟩) 1 1, .slice a2 S.above.length c2']) (ls := [S.below, [S.r], S.above]) hw (SlV.row.head _) rfl (fun k u l hu hl => by
 match k, hu, hl with
 | 0, hu, hl =>
  obtain rfl := Option.some.inj hu; obtain rfl := Option.some.inj hl
  exact ((SlT.row (T := 232) (m := S.below.length) (by simp) (runC_z S.below)).head _).of sF
 | 1, hu, hl =>
  obtain rfl := Option.some.inj hu; obtain rfl := Option.some.inj hl
  exact ((SlT.row (T := 232) (m := 1) (rs := [runC S.r]) (by simp) (by intro r hr; simp at hr; subst hr; rfl)).head _).of sF
 | 2, hu, hl =>
  obtain rfl := Option.some.inj hu; obtain rfl := Option.some.inj hl
  exact ((SlT.row (T := 232) (m := S.above.length) (by simp) (runC_z S.above)).head _).of sF
 | k + 3, hu, hl => simp at hu) (by simp [sums]; omega) (by simp [sums]; omega) (by simp)) rfl (fun w v91 hv => ?_)
  have hw : Sat G (row 232 2 v91 _ _ :: _) w := hv
  obtain ⟨a91, c91, rfl⟩ := row_form hw
  refine z2 ?_
  refine x_st1 (l' := [_]) rfl trivial rfl rfl one_sl_runs_Run_int rfl hw pK rfl rfl rfl (fun w hw => ?_)
  refine z3 ?_
  refine lD one_runs_many hw ?_
  refine x_conv rfl rfl trivial (by kernel_rfl) U_runs_many U_int rfl ?_
  refine z3 ?_
  refine bodyEnd_leave rfl ?_
  refine leave_dblk hw pK (fun w hw => ?_)
  exact leave1 rfl rfl (by
 refine ⟨⟨_, rfl⟩, .slice a91 (sums [S.below, [S.r], S.above]) c91, ?_⟩
 have e1 : addR rs lo hi = [S.below, [S.r], S.above].flatten := by unfold addR; rw [← hS]; simp
 have e2 : (addR rs lo hi).length = sums [S.below, [S.r], S.above] := by rw [e1]; simp [sums]; omega
 rw [e2, e1]
 exact (hw.b [row 228 _ _ _ _, row _ _ (.slice (some ⟨b88, 0, none⟩) _ _) _ _, blk b7 _ _, row _ _ (.slice a1 S.below.length c1) _ _, row _ _ (.slice a2 S.above.length c2') _ _, blk b8 _ _, row _ _ (.slice va rs.length vc) _ _, blk qb _ _, row _ _ (.slice a91 _ c91) _ _]).tail.tail.tail.tail.tail.tail.tail)
 ·
  clear hw; intro D w hw; exact (assn_out hw).elim fun _ h => h.1.elim
 intro id A hA; cases hA
end
def remOne (lo hi : Int) (x : Int × Int) : List (Int × Int) :=
 if x.2 < lo ∨ hi < x.1 then [x] else (if x.1 < lo then [(x.1, lo - 1)] else []) ++ (if hi < x.2 then [(hi + 1, x.2)] else [])
def remR (rs : List (Int × Int)) (lo hi : Int) : List (Int × Int) := rs.flatMap (remOne lo hi)
def lowR : List (Int × Int) → Value
 | [] => .tuple #[.int .i64 0, .bool false]
 | x :: _ => .tuple #[.int .i64 x.1, .bool true]
theorem remR_step {rs : List (Int × Int)} {k : Nat} {x : Int × Int} (lo hi : Int) (hx : rs[k]? = some x) : remR (rs.take (k + 1)) lo hi = remR (rs.take k) lo hi ++ remOne lo hi x := by
 unfold remR; rw [take_step hx, List.flatMap_append]; simp
theorem remOne_len (lo hi : Int) (x : Int × Int) : (remOne lo hi x).length ≤ 2 := by unfold remOne; repeat' split <;> simp
theorem remR_len (lo hi : Int) : ∀ rs : List (Int × Int), (remR rs lo hi).length ≤ 2 * rs.length
 | [] => by simp [remR]
 | x :: rs => by
  have h1 := remR_len lo hi rs
  have h2 := remOne_len lo hi x
  simp only [remR, List.flatMap_cons, List.length_append, List.length_cons] at h1 ⊢
  omega
section
variable {G : Gh} {L R : List Assn} {w : World}
theorem ct_runs_New_int (hw : Sat G L w) : Calls Tryz.prog 135 #[.slice none 0 0] w (Ret fun r w' => ∃ qb, r = .pointer (some ⟨qb, 0, none⟩) ∧ Sat G (blk qb [.slice none 0 0] 230 :: row 232 2 (.slice none 0 0) 0 [] :: L) w') := by
 refine calls_of_x (args := [_]) Tryz.func135 rfl Tryz.ntmps135 rfl rfl ?_
 refine z6 ?_
 refine x_build (v := .agg #[.slice none 0 0]) rfl rfl trivial rfl (fun w => by kernel_rfl) ?_
 refine x_box rfl rfl trivial rfl rfl hw rfl (fun w b7 hw => ?_)
 refine z10 ?_
 refine x_loop (fun m e w => m = 0 ∧ e = [(3, .pointer (some ⟨b7, 0, none⟩)), (9, .int .i64 0), (10, .int .i64 0)] ∧ Sat G (blk b7 [.slice none 0 0] 230 :: L) w)
  (m := 0) (e₀ := [(3, .pointer (some ⟨b7, 0, none⟩)), (9, .int .i64 0), (10, .int .i64 0)]) sB
  ⟨rfl, rfl, hw⟩ ?_
 rintro m e w ⟨rfl, rfl, hw⟩
 refine z5 ?_
 refine x_if rfl (fun h1 => ?_) (fun h1 => ?_)
 ·
  exact absurd h1 (by omega)
 refine z7 ?_
 exact end1 rfl rfl rfl ⟨b7, rfl, (row_nil hw 232 2).b [blk b7 _ _, row _ _ _ _ _]⟩
theorem ct_runs_Set_int_Lowest {qb : Nat} {v : Value} {rs : List (Int × Int)} (hw : Sat G (blk qb [v] 230 :: row 232 2 v rs.length (rs.map runC).flatten :: L) w) :
  Calls Tryz.prog 173 #[.pointer (some ⟨qb, 0, none⟩)] w (Ret fun r w' => r = lowR rs ∧ Sat G (blk qb [v] 230 :: row 232 2 v rs.length (rs.map runC).flatten :: L) w') := by
 obtain ⟨va, vc, rfl⟩ := row_form (hw.pick (A := row _ _ v _ _) pK)
 have hsl : Knows (row 232 2 (.slice va rs.length vc) rs.length (rs.map runC).flatten :: L) (SlT 2 (.slice va rs.length vc) (rs.map runC)) := (SlT.row (by simp) (runC_z rs)).head _
 refine calls_of_x (args := [_]) Tryz.func173 rfl Tryz.ntmps173 rfl rfl ?_
 refine z11 ?_
 refine lD one_sl_runs_Run_int hw ?_
 refine x_len rfl rfl trivial (by kernel_rfl) U_sl_runs_Run_int rfl ?_
 refine z2 ?_
 refine x_if rfl (fun h1 => ?_) (fun h1 => ?_)
 ·
  refine z6 ?_
  exact end2 rfl rfl rfl rfl ⟨by
 cases rs with
 | nil => rfl
 | cons x r => simp only [List.length_cons] at h1; omega, hw⟩
 obtain ⟨x, rs', rfl⟩ : ∃ x rs', rs = x :: rs' := by cases rs with
  | nil => exact absurd rfl h1
  | cons x r => exact ⟨x, r, rfl⟩
 obtain ⟨bb, oo, rfl⟩ := ((hsl.of sF).at hw).nn (by simp)
 refine z6 ?_
 refine lD one_sl_runs_Run_int hw ?_
 refine x_idx rfl rfl trivial U_sl_runs_Run_int sz_runs_Run_int rfl rfl ⟨by omega, by simp⟩ ?_
 refine x_fldk rfl rfl trivial fo_runs_Run_int_0 rfl ?_
 refine x_ld rfl rfl trivial rfl (Loads.one one_int (((hsl.of sF).at hw).cell (k := 0) (j := 0) (r := runC x) rfl rfl)) ?_
 refine z4 ?_
 exact end2 rfl rfl rfl rfl ⟨rfl, hw⟩
theorem ct_runs_Set_int_Remove {qb : Nat} {v : Value} {rs : List (Int × Int)} {lo hi : Int} (hw : Sat G (blk qb [v] 230 :: row 232 2 v rs.length (rs.map runC).flatten :: L) w) (hlh : lo ≤ hi) (hok : RunOk (lo, hi)) (hln : rs.length ≤ 100000) :
  Calls Tryz.prog 184 #[.pointer (some ⟨qb, 0, none⟩), .int .i64 lo, .int .i64 hi] w (Ret fun r w' => (∃ n, r = .int .i64 n) ∧ ∃ v', Sat G (blk qb [v'] 230 :: row 232 2 v' (remR rs lo hi).length ((remR rs lo hi).map runC).flatten :: L) w') := by
 obtain ⟨va, vc, rfl⟩ := row_form (hw.pick (A := row _ _ v _ _) pK)
 have hsl : Knows (row 232 2 (.slice va rs.length vc) rs.length (rs.map runC).flatten :: L) (SlT 2 (.slice va rs.length vc) (rs.map runC)) := (SlT.row (by simp) (runC_z rs)).head _
 have hok' := hok
 unfold RunOk at hok'
 simp only at hok'
 refine calls_of_x (args := [_, _, _]) Tryz.func184 rfl Tryz.ntmps184 rfl rfl ?_
 refine z11 ?_
 refine x_if rfl (fun h1 => ?_) (fun h1 => ?_)
 ·
  exact absurd h1 (by omega)
 refine z3 ?_
 refine x_alloc rfl rfl trivial z_runs_many hw rfl (fun w b7 hw => ?_)
 refine x_st1 (l' := [.int .u64 0]) rfl trivial rfl rfl one_runs_many rfl hw pK rfl rfl rfl (fun w hw => ?_)
 refine z7 ?_
 refine x_build (v := .agg #[.int .i64 lo, .int .i64 hi]) rfl rfl trivial rfl (fun w => by kernel_rfl) ?_
 refine x_call rfl rfl trivial cal_runs_Set_int_within rfl (ct_runs_Set_int_within hw ⟨_, rfl⟩) rfl (fun w v19 hv => ?_)
 obtain ⟨c2, c3, rfl, hw⟩ := hv
 refine z2 ?_
 have hw := Sat.ex_in (F := fun n : Int => blk b7 [.int .u64 n] 234) 0 (hw.b [blk b7 _ _, blk c2 _ _, blk c3 _ _, blk qb _ _, row _ _ _ _ _])
 refine x_range (e₀ := [(7, .pointer (some ⟨b7, 0, none⟩))]) (fun _ => ex fun n : Int => blk b7 [.int .u64 n] 234) (fun _ => False) [] rfl cal_runs_Set_int_within_1 rfl sG rfl hw (fun k args M h => by obtain ⟨x, _, rfl⟩ := h; rfl) (it_within (by omega)) ?_ ?_ ?_ ?_
 ·
  clear hw
  intro l D1 o k args M w hk hpre hw
  obtain ⟨x, hx, rfl⟩ := hpre
  obtain ⟨n, hw⟩ := Sat.ex_out hw
  refine z1 ?_
  refine x_alloc rfl rfl trivial z_runs_Run_int hw rfl (fun w b8 hw => ?_)
  refine x_stN (cs := runC x) (l' := [.int .i64 x.1, .int .i64 x.2]) rfl trivial rfl rfl many_runs_Run_int rfl (by intro u hu; simp [runC] at hu; rcases hu with rfl | rfl <;> rfl) hw pK (by simp [runC]) rfl rfl (fun w hw => ?_)
  refine xl_nil ?_
  refine ⟨_, hw.pick (A := pt l o) pK, fun o' w hw => ?_⟩
  refine z2 ?_
  refine lD one_runs_many hw ?_
  refine x_ld rfl rfl trivial rfl (Loads.blkA many_runs_Run_int hw pK (by simp)) ?_
  refine x_call rfl rfl trivial cal_runs_with_int rfl (ct_runs_with_int hw) rfl (fun w v23 hv => ?_)
  obtain ⟨⟨m', rfl⟩, hw⟩ := hv
  refine x_st1 (l' := [.int .u64 m']) rfl trivial rfl rfl one_runs_many rfl hw pK rfl rfl rfl (fun w hw => ?_)
  refine xl_nil ?_
  exact Sat.ex_in m' (hw.b [blk b8 _ _, blk b7 _ _, pt l _, dblk D1]).tail
 ·
  clear hw
  intro D1 w hw
  obtain ⟨n, hw⟩ := Sat.ex_out hw
  refine z10 ?_
  refine lD one_sl_runs_Run_int hw ?_
  refine x_len rfl rfl trivial (by kernel_rfl) U_sl_runs_Run_int rfl ?_
  refine z3 ?_
  have hw := row_nil hw 232 2
  have hw := (hw.b [blk c2 _ _, blk c3 _ _, row _ _ (.slice none 0 0) _ _, blk b7 _ _, dblk D1, blk qb _ _, row _ _ _ _ _]).tail.tail
  refine x_loop (fun m e w => ∃ (k : Nat) (v1 : Value), k ≤ rs.length ∧ m = rs.length - k ∧ e = [(1000000000, .pointer (some ⟨D1, 0, none⟩)), (0, .pointer (some ⟨qb, 0, none⟩)), (1, .int .i64 lo), (2, .int .i64 hi), (7, .pointer (some ⟨b7, 0, none⟩)), (9, v1), (27, .slice va rs.length vc), (28, .int .i64 rs.length), (29, .int .i64 k)] ∧ Sat G (row 232 2 v1 (remR (rs.take k) lo hi).length ((remR (rs.take k) lo hi).map runC).flatten :: blk b7 [.int .u64 n] 234 :: dblk D1 :: blk qb [.slice va rs.length vc] 230 :: row 232 2 (.slice va rs.length vc) rs.length (rs.map runC).flatten :: L) w)
   (m := rs.length) (e₀ := [(1000000000, .pointer (some ⟨D1, 0, none⟩)), (0, .pointer (some ⟨qb, 0, none⟩)), (1, .int .i64 lo), (2, .int .i64 hi), (7, .pointer (some ⟨b7, 0, none⟩)), (9, .slice none 0 0), (27, .slice va rs.length vc), (28, .int .i64 rs.length), (29, .int .i64 (0 : Nat))]) sB
   ⟨0, _, Nat.zero_le _, rfl, rfl, hw⟩ ?_
  rintro m e w ⟨k, v1, hk, rfl, rfl, hw⟩
  have hrl := remR_len lo hi (rs.take k)
  rw [List.length_take] at hrl
  have hst := fun x hx => remR_step (rs := rs) (k := k) (x := x) lo hi hx
  obtain ⟨S, hS⟩ : ∃ S, S = remR (rs.take k) lo hi := ⟨_, rfl⟩
  rw [← hS] at hrl hw hst
  refine z5 ?_
  refine x_if rfl (fun h2 => ?_) (fun h2 => ?_)
  ·
   have hk' : k < rs.length := by omega
   obtain ⟨x, hx⟩ : ∃ x, rs[k]? = some x := ⟨_, List.getElem?_eq_getElem hk'⟩
   have hxr : (rs.map runC)[k]? = some (runC x) := by rw [List.getElem?_map, hx]; rfl
   have hst := hst x hx
   unfold remOne at hst
   obtain ⟨bb, oo, rfl⟩ := ((hsl.of sF).at hw).nn (by rw [List.length_map]; omega)
   refine z5 ?_
   refine x_idx rfl rfl trivial U_sl_runs_Run_int sz_runs_Run_int rfl rfl ⟨by omega, by omega⟩ ?_
   refine x_ld rfl rfl trivial rfl (Loads.many many_runs_Run_int rfl (by rw [Int.toNat_natCast]; exact ((hsl.of sF).at hw).at hxr)) ?_
   refine x_alloc rfl rfl trivial z_runs_Run_int hw rfl (fun w b11 hw => ?_)
   refine x_stN (cs := runC x) (l' := [.int .i64 x.1, .int .i64 x.2]) rfl trivial rfl rfl many_runs_Run_int rfl (by intro u hu; simp [runC] at hu; rcases hu with rfl | rfl <;> rfl) hw pK (by simp [runC]) rfl rfl (fun w hw => ?_)
   refine z5 ?_
   refine lD one_int hw ?_
   refine z3 ?_
   refine xl_and (l1 := [5, 6, 7, 8, 9]) (l2 := []) rfl (d := 42) (x.2 < lo ∨ hi < x.1) rfl ?_ ?_
   ·
    refine xl_split (d := 37) rfl (fun h3 => ?_) (fun h3 => ?_)
    ·
     refine z6 ?_
     refine cQ ?_
     exact dC
    refine z1 ?_
    refine lD one_int hw ?_
    refine z4 ?_
    refine cQ ?_
    exact dC
   refine xl_nil ?_
   refine x_if rfl (fun h4 => ?_) (fun h4 => ?_)
   ·
    refine z3 ?_
    refine x_ld rfl rfl trivial rfl (Loads.blkA many_runs_Run_int hw pK (by simp)) ?_
    refine x_bs1 (cs := runC x) rfl rfl trivial U_sl_runs_Run_int sz_runs_Run_int zs_runs_Run_int (by decide) rfl rfl rfl hw rfl (fun w b45 hw => ?_)
    refine x_app (m := S.length) (k := 1) (news := runC x) rfl rfl trivial U_sl_runs_Run_int sz_runs_Run_int by_runs_Run_int zs_runs_Run_int rfl rfl hw (show Pick (row 232 2 v1 _ _) _ _ from pK) (Rd.blk0 hw pK) rfl (by intro u hu; simp [runC] at hu; rcases hu with rfl | rfl <;> rfl) (by simp only [maxLen]; omega) (by omega) rfl (fun w v46 hw => ?_)
    refine z7 ?_
    refine ⟨rs.length - (k + 1), by omega, [(1000000000, _), (0, _), (1, _), (2, _), (7, _), (9, _), (27, _), (28, _), (29, .int .i64 (k + 1 : Nat))], sB, k + 1, _, by omega, rfl, rfl, ?_⟩
    rw [hst, if_pos h4]
    have e1 : ((S ++ [x]).map runC).flatten = (S.map runC).flatten ++ runC x := by simp
    simp only [List.length_append, List.length_singleton, e1]
    exact (hw.b [blk b45 _ _, blk b11 _ _, row _ _ v46 _ _, blk b7 _ _, dblk D1, blk qb _ _, row _ _ _ _ _]).tail.tail
   rw [if_neg h4] at hst
   refine x_skip ?_
   refine x_join (fun e w => ∃ (v2 : Value) (S' : List (Int × Int)), e = [(1000000000, .pointer (some ⟨D1, 0, none⟩)), (0, .pointer (some ⟨qb, 0, none⟩)), (1, .int .i64 lo), (2, .int .i64 hi), (7, .pointer (some ⟨b7, 0, none⟩)), (9, v2), (11, .pointer (some ⟨b11, 0, none⟩)), (27, .slice (some ⟨bb, oo, none⟩) rs.length vc), (28, .int .i64 rs.length), (29, .int .i64 k)] ∧ (S' = S ++ (if x.1 < lo then [(x.1, lo - 1)] else []) ∧ S'.length ≤ S.length + 1) ∧ Sat G (row 232 2 v2 S'.length (S'.map runC).flatten :: blk b11 [.int .i64 x.1, .int .i64 x.2] 232 :: blk b7 [.int .u64 n] 234 :: dblk D1 :: blk qb [.slice (some ⟨bb, oo, none⟩) rs.length vc] 230 :: row 232 2 (.slice (some ⟨bb, oo, none⟩) rs.length vc) rs.length (rs.map runC).flatten :: L) w) ?_ ?_
   ·
    refine z3 ?_
    refine lD one_int hw ?_
    refine z3 ?_
    refine x_if rfl (fun h5 => ?_) (fun h5 => ?_)
    ·
     refine z3 ?_
     refine lD one_int hw ?_
     refine z2 ?_
     refine x_build (v := .agg (runC (x.1, lo - 1)).toArray) rfl rfl trivial rfl (fun w => by kernel_rfl) ?_
     refine x_bs1 (cs := runC (x.1, lo - 1)) rfl rfl trivial U_sl_runs_Run_int sz_runs_Run_int zs_runs_Run_int (by decide) rfl rfl rfl hw rfl (fun w b57 hw => ?_)
     refine x_app (m := S.length) (k := 1) (news := runC (x.1, lo - 1)) rfl rfl trivial U_sl_runs_Run_int sz_runs_Run_int by_runs_Run_int zs_runs_Run_int rfl rfl hw (show Pick (row 232 2 v1 _ _) _ _ from pK) (Rd.blk0 hw pK) rfl (by intro u hu; simp [runC] at hu; rcases hu with rfl | rfl <;> rfl) (by simp only [maxLen]; omega) (by omega) rfl (fun w v58 hw => ?_)
     refine z2 ?_
     have e1 : ((S ++ [(x.1, lo - 1)]).map runC).flatten = (S.map runC).flatten ++ runC (x.1, lo - 1) := by simp
     refine ⟨[(1000000000, _), (0, _), (1, _), (2, _), (7, _), (9, _), (11, _), (27, _), (28, _), (29, _)], sB, v58, S ++ [(x.1, lo - 1)], rfl, ⟨by rw [if_pos h5], by simp⟩, ?_⟩
     rw [e1, List.length_append, List.length_singleton]
     exact (hw.b [blk b57 _ _, row _ _ v58 _ _, blk b11 _ _, blk b7 _ _, dblk D1, blk qb _ _, row _ _ _ _ _]).tail
    refine x_skip ?_
    refine ⟨[(1000000000, _), (0, _), (1, _), (2, _), (7, _), (9, _), (11, _), (27, _), (28, _), (29, _)], sB, v1, S, rfl, ⟨by rw [if_neg h5, List.append_nil], by omega⟩, ?_⟩
    exact hw.b [row _ _ v1 _ _, blk b11 _ _, blk b7 _ _, dblk D1, blk qb _ _, row _ _ _ _ _]
   clear hw
   rintro e w ⟨v2, S', rfl, ⟨hS', hSl⟩, hw⟩
   rw [← List.append_assoc, ← hS'] at hst
   refine z3 ?_
   refine lD one_int hw ?_
   refine z3 ?_
   refine x_if rfl (fun h6 => ?_) (fun h6 => ?_)
   ·
    refine z5 ?_
    refine lD one_int hw ?_
    refine x_build (v := .agg (runC (hi + 1, x.2)).toArray) rfl rfl trivial rfl (fun w => by kernel_rfl) ?_
    refine x_bs1 (cs := runC (hi + 1, x.2)) rfl rfl trivial U_sl_runs_Run_int sz_runs_Run_int zs_runs_Run_int (by decide) rfl rfl rfl hw rfl (fun w b69 hw => ?_)
    refine x_app (m := S'.length) (k := 1) (news := runC (hi + 1, x.2)) rfl rfl trivial U_sl_runs_Run_int sz_runs_Run_int by_runs_Run_int zs_runs_Run_int rfl rfl hw (show Pick (row 232 2 v2 _ _) _ _ from pK) (Rd.blk0 hw pK) rfl (by intro u hu; simp [runC] at hu; rcases hu with rfl | rfl <;> rfl) (by simp only [maxLen]; omega) (by omega) rfl (fun w v70 hw => ?_)
    refine z6 ?_
    refine ⟨rs.length - (k + 1), by omega, [(1000000000, _), (0, _), (1, _), (2, _), (7, _), (9, _), (27, _), (28, _), (29, .int .i64 (k + 1 : Nat))], sB, k + 1, _, by omega, rfl, rfl, ?_⟩
    rw [hst, if_pos h6]
    have e1 : ((S' ++ [(hi + 1, x.2)]).map runC).flatten = (S'.map runC).flatten ++ runC (hi + 1, x.2) := by simp
    simp only [List.length_append, List.length_singleton, e1]
    exact (hw.b [blk b69 _ _, blk b11 _ _, row _ _ v70 _ _, blk b7 _ _, dblk D1, blk qb _ _, row _ _ _ _ _]).tail.tail
   refine z5 ?_
   refine ⟨rs.length - (k + 1), by omega, [(1000000000, _), (0, _), (1, _), (2, _), (7, _), (9, _), (27, _), (28, _), (29, .int .i64 (k + 1 : Nat))], sB, k + 1, _, by omega, rfl, rfl, ?_⟩
   rw [hst, if_neg h6, List.append_nil]
   exact (hw.b [blk b11 _ _, row _ _ v2 _ _, blk b7 _ _, dblk D1, blk qb _ _, row _ _ _ _ _]).tail
  have hke : k = rs.length := by omega
  subst hke
  rw [List.take_length] at hS
  obtain ⟨a1, c1, rfl⟩ := row_form (hw.pick (A := row _ _ v1 _ _) pK)
  refine z7 ?_
  refine x_st1 (l' := [_]) rfl trivial rfl rfl one_sl_runs_Run_int rfl hw pK rfl rfl rfl (fun w hw => ?_)
  refine z3 ?_
  refine lD one_runs_many hw ?_
  refine x_conv rfl rfl trivial (by kernel_rfl) U_runs_many U_int rfl ?_
  refine z3 ?_
  refine bodyEnd_leave rfl ?_
  refine leave_dblk hw pK (fun w hw => ?_)
  exact leave1 rfl rfl (by
 refine ⟨⟨_, rfl⟩, .slice a1 S.length c1, ?_⟩
 rw [← hS]
 exact (hw.b [blk b7 _ _, row _ _ (.slice va rs.length vc) _ _, blk qb _ _, row _ _ (.slice a1 S.length c1) _ _]).tail.tail)
 ·
  clear hw; intro D w hw; exact (assn_out hw).elim fun _ h => h.1.elim
 intro id A hA; cases hA
end
structure PlV where
 refs : Int
 counts : List Int
 cv : Value
 last : List Bool
 lv : Value
 fr : Option Addr
 t0 : Int
 t1 : Int
 t2 : Int
 t3 : Int
 t4 : Int
 av : Value
 na : Nat
 floor : Int
def PlV.cells (p : PlV) : List Value := [.int .i64 p.refs, p.cv, p.lv, .pointer p.fr, .int .i64 p.t0, .int .i64 p.t1, .int .i64 p.t2, .int .i64 p.t3, .int .i64 p.t4, p.av, .int .i64 p.floor]
def bls (l : List Bool) : List Value := l.map (.bool ·)
theorem bls_length (l : List Bool) : (bls l).length = l.length := by simp [bls]
def PlV.tal (p : PlV) (k : Int) : Int := if k = 0 then p.t0 else if k = 1 then p.t1 else if k = 2 then p.t2 else if k = 3 then p.t3 else p.t4
abbrev thereP (c : List Int) (n : Int) : Prop := 1 ≤ n ∧ n ≤ (c.length : Int)
def cntP (c : List Int) (n : Int) : Int := if thereP c n then c.getD (n - 1).toNat 0 else 0
def stP (c : List Int) (l : List Bool) (n : Int) : Int :=
 if thereP c n then (if 0 < c.getD (n - 1).toNat 0 then (if l.getD (n - 1).toNat false = true then 4 else 3) else if l.getD (n - 1).toNat false = true then 2 else 1) else 0
theorem ints_at {c : List Int} {j : Nat} (h : j < c.length) : (ints c)[j]? = some (.int .i64 (c.getD j 0)) := by
 simp only [ints, List.getElem?_map, List.getD]
 rw [List.getElem?_eq_getElem h]; rfl
theorem bls_at {c : List Bool} {j : Nat} (h : j < c.length) : (bls c)[j]? = some (.bool (decide (c.getD j false = true))) := by
 have e : ∀ b : Bool, Value.bool (decide (b = true)) = .bool b := fun b => by cases b <;> rfl
 rw [e]
 simp only [bls, List.getElem?_map, List.getD, List.getElem?_eq_getElem h]
 rfl
theorem rowI {v : Value} {c : List Int} {R : List Assn} : Knows (row 3 1 v c.length (ints c) :: R) (SlV v (ints c)) := by
 have h := (SlV.row (T := 3) (v := v) (cs := ints c)).head R
 rw [ints_length] at h
 exact h
theorem rowL {v : Value} {c : List Bool} {R : List Assn} : Knows (row 4 1 v c.length (bls c) :: R) (SlV v (bls c)) := by
 have h := (SlV.row (T := 4) (v := v) (cs := bls c)).head R
 rw [bls_length] at h
 exact h
abbrev plP (q : Nat) (p : PlV) (L : List Assn) : List Assn := blk q p.cells 86 :: row 3 1 p.cv p.counts.length (ints p.counts) :: row 4 1 p.lv p.last.length (bls p.last) :: L
theorem pl_form {q : Nat} {p : PlV} {G : Gh} {L : List Assn} {w : World} (hw : Sat G (plP q p L) w) : ∃ ca cc la lc, plP q p L = (blk q [.int .i64 p.refs, .slice ca p.counts.length cc, .slice la p.last.length lc, .pointer p.fr, .int .i64 p.t0, .int .i64 p.t1, .int .i64 p.t2, .int .i64 p.t3, .int .i64 p.t4, p.av, .int .i64 p.floor] 86 :: row 3 1 (.slice ca p.counts.length cc) p.counts.length (ints p.counts) :: row 4 1 (.slice la p.last.length lc) p.last.length (bls p.last) :: L) := by
 obtain ⟨ca, cc, h1⟩ := row_form (hw.pick (A := row 3 1 p.cv _ _) (.there .here))
 obtain ⟨la, lc, h2⟩ := row_form (hw.pick (A := row 4 1 p.lv _ _) (.there (.there .here)))
 exact ⟨ca, cc, la, lc, by unfold plP; simp only [PlV.cells, h1, h2]⟩
section
variable {G : Gh} {L R : List Assn} {w : World}
theorem ct_pool_right {n r : Int} (hw : Sat G L w) : Calls Tryz.prog 65 #[.int .i64 n, .int .i64 r] w (Ret fun u w' => u = .bool (decide (1 ≤ n ∧ n ≤ 65536 ∧ 2 ≤ r ∧ r < 65536)) ∧ Sat G L w') := by
 refine calls_of_x (args := [_, _]) Tryz.func65 rfl Tryz.ntmps65 rfl rfl ?_
 refine z9 ?_
 refine xl_and (l1 := [3, 4, 5]) (l2 := [6, 7, 8, 9, 10, 11, 12, 13, 14]) rfl (d := 10) (1 ≤ n ∧ n ≤ 65536) rfl ?_ ?_
 ·
  refine xl_split (d := 7) rfl (fun h1 => ?_) (fun h1 => ?_)
  ·
   refine z4 ?_
   refine cQ ?_
   exact dC
  refine z4 ?_
  refine cQ ?_
  exact dC
 refine z1 ?_
 refine xl_and (l1 := [7, 8, 9]) (l2 := [10, 11, 12, 13, 14]) rfl (d := 14) (1 ≤ n ∧ n ≤ 65536 ∧ 2 ≤ r) rfl ?_ ?_
 ·
  refine xl_split (d := 11) rfl (fun h2 => ?_) (fun h2 => ?_)
  ·
   refine z4 ?_
   refine cQ ?_
   exact dC
  refine z4 ?_
  refine cQ ?_
  exact dC
 refine z1 ?_
 refine xl_and (l1 := [11, 12, 13]) (l2 := [14]) rfl (d := 18) (1 ≤ n ∧ n ≤ 65536 ∧ 2 ≤ r ∧ r < 65536) rfl ?_ ?_
 ·
  refine xl_split (d := 15) rfl (fun h3 => ?_) (fun h3 => ?_)
  ·
   refine z4 ?_
   refine cQ ?_
   exact dC
  refine z4 ?_
  refine cQ ?_
  exact dC
 refine z3 ?_
 exact end1 rfl rfl rfl ⟨rfl, hw⟩
theorem ct_pool_Pool_there {q : Nat} {p : PlV} {n : Int} (hw : Sat G (plP q p L) w) : Calls Tryz.prog 94 #[.pointer (some ⟨q, 0, none⟩), .int .i64 n] w (Ret fun u w' => u = .bool (decide (thereP p.counts n)) ∧ Sat G (plP q p L) w') := by
 obtain ⟨ca, cc, la, lc, he⟩ := pl_form hw
 rw [he] at hw
 refine calls_of_x (args := [_, _]) Tryz.func94 rfl Tryz.ntmps94 rfl rfl ?_
 refine z9 ?_
 refine xl_and (l1 := [3, 4, 5, 6, 7, 8, 9, 10]) (l2 := [11]) rfl (d := 15) (1 ≤ n ∧ n ≤ (p.counts.length : Int)) rfl ?_ ?_
 ·
  refine xl_split (d := 7) rfl (fun h1 => ?_) (fun h1 => ?_)
  ·
   refine z2 ?_
   refine x_nc rfl rfl ⟨_, rfl, rfl⟩ rfl ?_
   refine z1 ?_
   refine lD one_sl_int hw ?_
   refine x_len rfl rfl ⟨_, rfl, rfl⟩ (by kernel_rfl) U_sl_int rfl ?_
   refine z3 ?_
   refine cQ ?_
   exact dC
  refine z9 ?_
  refine cQ ?_
  exact dC
 refine z3 ?_
 exact end1 rfl rfl rfl ⟨rfl, by rw [he]; exact hw⟩
theorem ct_pool_Pool_Len {q : Nat} {p : PlV} (hw : Sat G (plP q p L) w) : Calls Tryz.prog 59 #[.pointer (some ⟨q, 0, none⟩)] w (Ret fun u w' => u = .int .i64 p.counts.length ∧ Sat G (plP q p L) w') := by
 obtain ⟨ca, cc, la, lc, he⟩ := pl_form hw
 rw [he] at hw
 refine calls_of_x (args := [_]) Tryz.func59 rfl Tryz.ntmps59 rfl rfl ?_
 refine z9 ?_
 refine lD one_sl_int hw ?_
 refine z4 ?_
 exact end1 rfl rfl rfl ⟨rfl, by rw [he]; exact hw⟩
theorem ct_pool_Pool_Count {q : Nat} {p : PlV} {n : Int} (hw : Sat G (plP q p L) w) (hl : p.counts.length ≤ 65536) : Calls Tryz.prog 52 #[.pointer (some ⟨q, 0, none⟩), .int .i64 n] w (Ret fun u w' => u = .int .i64 (cntP p.counts n) ∧ Sat G (plP q p L) w') := by
 obtain ⟨ca, cc, la, lc, he⟩ := pl_form hw
 refine calls_of_x (args := [_, _]) Tryz.func52 rfl Tryz.ntmps52 rfl rfl ?_
 refine z9 ?_
 refine x_call rfl rfl trivial cal_pool_Pool_there rfl (ct_pool_Pool_there hw) rfl (fun w v7 hv => ?_)
 obtain ⟨rfl, hw⟩ := hv
 refine x_notp rfl rfl trivial rfl ?_
 refine xl_nil ?_
 refine x_if rfl (fun h1 => ?_) (fun h1 => ?_)
 ·
  have h1' : ¬ thereP p.counts n := by simpa using h1
  refine z5 ?_
  exact end1 rfl rfl rfl ⟨by unfold cntP; rw [if_neg h1'], hw⟩
 have h1' : thereP p.counts n := by simpa using h1
 rw [he] at hw
 have hcs : Knows (row 3 1 (.slice ca p.counts.length cc) p.counts.length (ints p.counts) :: row 4 1 (.slice la p.last.length lc) p.last.length (bls p.last) :: L) (SlV (.slice ca p.counts.length cc) (ints p.counts)) := rowI
 obtain ⟨bb, oo, rfl⟩ := ((hcs.of sF).at hw).nn (by rw [ints_length]; omega)
 refine z6 ?_
 refine lD one_sl_int hw ?_
 refine z2 ?_
 refine x_idx1 rfl rfl trivial U_sl_int sz_int rfl rfl ⟨by omega, by omega⟩ ?_
 refine x_ld rfl rfl trivial rfl (Loads.one one_int (((hcs.of sF).at hw).at (ints_at (by omega)))) ?_
 refine z3 ?_
 exact end1 rfl rfl rfl ⟨by unfold cntP; rw [if_pos h1'], by rw [he]; exact hw⟩
theorem ct_pool_Pool_State {q : Nat} {p : PlV} {n : Int} (hw : Sat G (plP q p L) w) (hl : p.counts.length ≤ 65536) (hll : p.last.length = p.counts.length) : Calls Tryz.prog 133 #[.pointer (some ⟨q, 0, none⟩), .int .i64 n] w (Ret fun u w' => u = .int .i64 (stP p.counts p.last n) ∧ Sat G (plP q p L) w') := by
 obtain ⟨ca, cc, la, lc, he⟩ := pl_form hw
 refine calls_of_x (args := [_, _]) Tryz.func133 rfl Tryz.ntmps133 rfl rfl ?_
 refine z10 ?_
 refine x_call rfl rfl trivial cal_pool_Pool_there rfl (ct_pool_Pool_there hw) rfl (fun w v8 hv => ?_)
 obtain ⟨rfl, hw⟩ := hv
 refine x_notp rfl rfl trivial rfl ?_
 refine z2 ?_
 refine x_if rfl (fun h1 => ?_) (fun h1 => ?_)
 ·
  have h1' : ¬ thereP p.counts n := by simpa using h1
  refine z5 ?_
  exact end1 rfl rfl rfl ⟨by unfold stP; rw [if_neg h1'], hw⟩
 have h1' : thereP p.counts n := by simpa using h1
 rw [he] at hw
 have hcs : Knows (row 3 1 (.slice ca p.counts.length cc) p.counts.length (ints p.counts) :: row 4 1 (.slice la p.last.length lc) p.last.length (bls p.last) :: L) (SlV (.slice ca p.counts.length cc) (ints p.counts)) := rowI
 have hls : Knows (row 4 1 (.slice la p.last.length lc) p.last.length (bls p.last) :: L) (SlV (.slice la p.last.length lc) (bls p.last)) := rowL
 obtain ⟨bb, oo, rfl⟩ := ((hcs.of sF).at hw).nn (by rw [ints_length]; omega)
 obtain ⟨b2, o2, rfl⟩ := ((hls.of sF).at hw).nn (by rw [bls_length]; omega)
 obtain ⟨c, hc⟩ : ∃ c, c = p.counts.getD (n - 1).toNat 0 := ⟨_, rfl⟩
 obtain ⟨b, hb⟩ : ∃ b, b = p.last.getD (n - 1).toNat false := ⟨_, rfl⟩
 have hst : stP p.counts p.last n = (if 0 < c then (if b = true then 4 else 3) else if b = true then 2 else 1) := by unfold stP; rw [if_pos h1', hc, hb]
 have hc1 : (ints p.counts)[(n - 1).toNat]? = some (.int .i64 c) := by rw [hc]; exact ints_at (by omega)
 have hb1 : (bls p.last)[(n - 1).toNat]? = some (.bool (decide (b = true))) := by rw [hb]; exact bls_at (by omega)
 rw [hst]
 refine z5 ?_
 refine lD one_sl_int hw ?_
 refine z2 ?_
 refine x_idx1 rfl rfl trivial U_sl_int sz_int rfl rfl ⟨by omega, by omega⟩ ?_
 refine x_ld rfl rfl trivial rfl (Loads.one one_int (((hcs.of sF).at hw).at hc1)) ?_
 refine z2 ?_
 refine xl_and (l1 := [10, 11, 12, 13, 14, 15, 16, 17, 18]) (l2 := [19]) rfl (d := 29) (0 < c ∧ b = true) rfl ?_ ?_
 ·
  refine xl_split (d := 20) rfl (fun h2 => ?_) (fun h2 => ?_)
  ·
   refine z1 ?_
   refine x_nc rfl rfl ⟨_, rfl, rfl⟩ rfl ?_
   refine z1 ?_
   refine lD one_sl_bool hw ?_
   refine z1 ?_
   refine x_subi rfl rfl ⟨_, rfl, rfl⟩ rfl rfl (by omega) ?_
   refine x_idx1 rfl rfl ⟨_, rfl, rfl⟩ U_sl_bool sz_bool rfl rfl ⟨by omega, by omega⟩ ?_
   refine x_ld rfl rfl ⟨_, rfl, rfl⟩ rfl (Loads.one one_bool (((hls.of sF).at hw).at hb1)) ?_
   refine z2 ?_
   refine cQ ?_
   first | exact decide_eq_decide.2 ⟨fun h => ⟨h2, h⟩, fun h => h.2⟩ | exact (decide_eq_false (fun h => h2 h.1)).symm
  refine z10 ?_
  refine cQ ?_
  first | exact decide_eq_decide.2 ⟨fun h => ⟨h2, h⟩, fun h => h.2⟩ | exact (decide_eq_false (fun h => h2 h.1)).symm
 refine z2 ?_
 refine x_if rfl (fun h3 => ?_) (fun h3 => ?_)
 ·
  refine z5 ?_
  exact end1 rfl rfl rfl ⟨by rw [if_pos h3.1, if_pos h3.2], by rw [he]; exact hw⟩
 refine z5 ?_
 refine lD one_sl_int hw ?_
 refine z2 ?_
 refine x_idx1 rfl rfl trivial U_sl_int sz_int rfl rfl ⟨by omega, by omega⟩ ?_
 refine x_ld rfl rfl trivial rfl (Loads.one one_int (((hcs.of sF).at hw).at hc1)) ?_
 refine z3 ?_
 refine x_if rfl (fun h4 => ?_) (fun h4 => ?_)
 ·
  refine z5 ?_
  exact end1 rfl rfl rfl ⟨by rw [if_pos h4, if_neg (fun h => h3 ⟨h4, h⟩)], by rw [he]; exact hw⟩
 refine z5 ?_
 refine lD one_sl_bool hw ?_
 refine z2 ?_
 refine x_idx1 rfl rfl trivial U_sl_bool sz_bool rfl rfl ⟨by omega, by omega⟩ ?_
 refine x_ld rfl rfl trivial rfl (Loads.one one_bool (((hls.of sF).at hw).at hb1)) ?_
 refine z2 ?_
 refine x_if rfl (fun h5 => ?_) (fun h5 => ?_)
 ·
  refine z5 ?_
  exact end1 rfl rfl rfl ⟨by rw [if_neg h4, if_pos h5], by rw [he]; exact hw⟩
 refine z6 ?_
 exact end1 rfl rfl rfl ⟨by rw [if_neg h4, if_neg h5], by rw [he]; exact hw⟩
end
def st1 (x : Int) : Int := if 0 < x then 4 else 1
def talN (l : List Int) (k : Int) : Int := ((l.filter fun x => decide (st1 x = k)).length : Int)
theorem talN_snoc (l : List Int) (x k : Int) : talN (l ++ [x]) k = talN l k + (if st1 x = k then 1 else 0) := by
 unfold talN
 rw [List.filter_append, List.length_append]
 by_cases h : st1 x = k <;> simp [h]
theorem talN_le (l : List Int) (k : Int) : 0 ≤ talN l k ∧ talN l k ≤ l.length := by
 unfold talN
 have := List.length_filter_le (fun x => decide (st1 x = k)) l
 omega
def freeS (s : Nat × List (Int × Int)) (x : Int) : Nat × List (Int × Int) := (s.1 + 1, if x = 0 then addR s.2 ((s.1 : Int) + 1) ((s.1 : Int) + 1) else s.2)
def freeF (l : List Int) : Nat × List (Int × Int) := l.foldl freeS (0, [])
def freeR (l : List Int) : List (Int × Int) := (freeF l).2
theorem freeF_fst (l : List Int) : (freeF l).1 = l.length := by
 have : ∀ (l : List Int) (s : Nat × List (Int × Int)), (l.foldl freeS s).1 = s.1 + l.length := by
  intro l
  induction l with
  | nil => intro s; rfl
  | cons x l ih => intro s; rw [List.foldl_cons, ih]; simp only [freeS, List.length_cons]; omega
 rw [freeF, this]; simp
theorem freeR_snoc (l : List Int) (x : Int) : freeR (l ++ [x]) = if x = 0 then addR (freeR l) ((l.length : Int) + 1) ((l.length : Int) + 1) else freeR l := by
 unfold freeR
 rw [show freeF (l ++ [x]) = freeS (freeF l) x by unfold freeF; rw [List.foldl_append]; rfl]
 unfold freeS
 rw [freeF_fst]
theorem addF_mem {lo hi : Int} : ∀ (rs : List (Int × Int)) (s : AddS) (x : Int × Int), (x ∈ (rs.foldl addStep s).below ∨ x ∈ (rs.foldl addStep s).above) → x ∈ s.below ∨ x ∈ s.above ∨ x ∈ rs := by
 intro rs
 induction rs with
 | nil => intro s x h; rcases h with h | h; exact .inl h; exact .inr (.inl h)
 | cons y rs ih =>
  intro s x h
  rw [List.foldl_cons] at h
  rcases ih _ x h with h | h | h
  ·unfold addStep at h
   split at h
   ·rcases List.mem_append.1 h with h | h
    ·exact .inl h
    exact .inr (.inr (by simp at h; simp [h]))
   split at h <;> exact .inl h
  ·unfold addStep at h
   split at h
   ·exact .inr (.inl h)
   split at h
   ·rcases List.mem_append.1 h with h | h
    ·exact .inr (.inl h)
    exact .inr (.inr (by simp at h; simp [h]))
   exact .inr (.inl h)
  exact .inr (.inr (List.mem_cons_of_mem _ h))
theorem addR_ok {rs : List (Int × Int)} {lo hi : Int} (h : RunOk (lo, hi)) (hrs : ∀ x ∈ rs, RunOk x) : (∀ x ∈ addR rs lo hi, RunOk x) ∧ (addR rs lo hi).length ≤ rs.length + 1 := by
 have ha := addOk h hrs rs.length (Nat.le_refl _)
 rw [List.take_length] at ha
 refine ⟨fun x hx => ?_, ?_⟩
 ·unfold addR at hx
  rcases List.mem_append.1 hx with hx | hx
  ·rcases List.mem_append.1 hx with hx | hx
   ·rcases addF_mem (lo := lo) (hi := hi) rs _ x (.inl hx) with h | h | h
    ·cases h
    ·cases h
    exact hrs x h
   simp at hx; subst hx; exact ha.r
  rcases addF_mem (lo := lo) (hi := hi) rs _ x (.inr hx) with h | h | h
  ·cases h
  ·cases h
  exact hrs x h
 have := ha.b
 unfold addR
 simp only [List.length_append, List.length_singleton]
 omega
theorem freeR_ok : ∀ (n : Nat) (l : List Int), l.length ≤ n → n ≤ 1000000 → (∀ x ∈ freeR l, RunOk x) ∧ (freeR l).length ≤ l.length := by
 intro n
 induction n with
 | zero =>
  intro l hl _
  have : l = [] := List.eq_nil_of_length_eq_zero (by omega)
  subst this
  exact ⟨fun x hx => (by cases hx), Nat.le_refl _⟩
 | succ n ih =>
  intro l hl hn
  rcases l.eq_nil_or_concat with rfl | ⟨l', x, rfl⟩
  ·exact ⟨fun x hx => (by cases hx), Nat.zero_le _⟩
  simp only [List.concat_eq_append] at hl ⊢
  rw [List.length_append, List.length_singleton] at hl ⊢
  obtain ⟨h1, h2⟩ := ih l' (by omega) (by omega)
  rw [freeR_snoc]
  split
  ·have h3 := addR_ok (rs := freeR l') (lo := (l'.length : Int) + 1) (hi := (l'.length : Int) + 1) (by unfold RunOk; simp only; omega) h1
   exact ⟨h3.1, by omega⟩
  exact ⟨h1, by omega⟩
section
variable {G : Gh} {L R : List Assn} {w : World}
theorem ct_pool_Pool_Mark {q : Nat} {p : PlV} (hw : Sat G (plP q p L) w) (hav : ∃ a c, p.av = .slice a p.na c) (hf : 0 ≤ p.floor ∧ p.floor + p.na ≤ 1000000000000000) : Calls Tryz.prog 129 #[.pointer (some ⟨q, 0, none⟩)] w (Ret fun u w' => u = .int .i64 (p.floor + p.na) ∧ Sat G (plP q p L) w') := by
 obtain ⟨ca, cc, la, lc, he⟩ := pl_form hw
 obtain ⟨aa, ac, hav⟩ := hav
 rw [hav] at he
 rw [he] at hw
 refine calls_of_x (args := [_]) Tryz.func129 rfl Tryz.ntmps129 rfl rfl ?_
 refine z5 ?_
 refine x_draw [0, 1, 2, 3, 4, 5, 6, 7, 8, 9, 10] mixed (by kernel_rfl) ?_
 replace hw := hw.drawn (w.drawn + 1)
 refine z3 ?_
 refine lD one_int hw ?_
 refine z3 ?_
 refine lD one_sl_pool_act hw ?_
 refine x_len rfl rfl trivial (by kernel_rfl) U_sl_pool_act rfl ?_
 refine z4 ?_
 exact end1 rfl rfl rfl ⟨rfl, by rw [he]; exact hw⟩
theorem ct_pool_Pool_Tally {q : Nat} {p : PlV} {k : Int} (hw : Sat G (plP q p L) w) : Calls Tryz.prog 18 #[.pointer (some ⟨q, 0, none⟩), .int .i64 k] w (Ret fun u w' => u = .int .i64 (if k < 1 ∨ 4 < k then 0 else p.tal k) ∧ Sat G (plP q p L) w') := by
 obtain ⟨ca, cc, la, lc, he⟩ := pl_form hw
 rw [he] at hw
 refine calls_of_x (args := [_, _]) Tryz.func18 rfl Tryz.ntmps18 rfl rfl ?_
 refine z10 ?_
 refine xl_and (l1 := [3, 4, 5]) (l2 := []) rfl (d := 10) (k < 1 ∨ 4 < k) rfl ?_ ?_
 ·
  refine xl_split (d := 7) rfl (fun h1 => ?_) (fun h1 => ?_)
  ·
   refine z4 ?_
   refine cQ ?_
   exact dC
  refine z4 ?_
  refine cQ ?_
  exact dC
 refine xl_nil ?_
 refine x_if rfl (fun h2 => ?_) (fun h2 => ?_)
 ·
  refine z5 ?_
  exact end1 rfl rfl rfl ⟨by rw [if_pos h2], by rw [he]; exact hw⟩
 have h3 : k = 1 ∨ k = 2 ∨ k = 3 ∨ k = 4 := by omega
 refine z7 ?_
 refine x_idxA rfl rfl trivial U_a5_int sz_int rfl rfl ⟨by omega, by omega⟩ ?_
 refine x_ld rfl rfl trivial rfl (Loads.blk1 (v := .int .i64 (p.tal k)) one_int hw pK (by rcases h3 with rfl | rfl | rfl | rfl <;> rfl)) ?_
 refine z3 ?_
 exact end1 rfl rfl rfl ⟨by rw [if_neg h2], by rw [he]; exact hw⟩
theorem ct_slices_Clone_int_int {v : Value} {l : List Int} (hw : Sat G L w) (ka : Knows L (SlV v (ints l))) (hll : l.length ≤ 1000000000) :
  Calls Tryz.prog 23 #[v] w (Ret fun r w' => Sat G (row 3 1 r l.length (ints l) :: L) w') := by
 obtain ⟨a, cap, rfl⟩ := (ka.at hw).form
 rw [ints_length]
 refine calls_of_x (args := [_]) Tryz.func23 rfl Tryz.ntmps23 rfl rfl ?_
 refine z8 ?_
 refine x_eqnilS rfl rfl trivial U_sl_int rfl ?_
 refine xl_nil ?_
 refine x_cond rfl (fun h1 => ?_) (fun h1 => ?_)
 ·
  refine z5 ?_
  exact end1 rfl rfl rfl (by
 rcases ka.at hw with ⟨-, h⟩ | ⟨b, o, cap, h, -⟩
 ·have : l = [] := by simpa [ints] using h
  subst this; exact row_nil hw _ _
 ·cases h; cases h1)
 obtain ⟨x, rfl⟩ : ∃ x, a = some x := by cases a with | none => cases h1 | some x => exact ⟨x, rfl⟩
 refine z3 ?_
 refine x_bs0 rfl rfl trivial U_sl_int sz_int hw rfl (fun w b5 hw => ?_)
 have hw := row_full (z := 1) (m := 0) hw rfl (by simp only [maxLen]; omega)
 have hrd : Rd w x (ints l) := by
  rcases (ka.cons (row 3 1 (.slice (some ⟨b5, 0, none⟩) 0 0) 0 [])).at hw with ⟨-, h⟩ | ⟨b, o, cap, h, -, hR⟩
  ·rw [h]; exact Rd.nil
  cases h; exact hR
 refine z1 ?_
 refine x_app (m := 0) (k := l.length) (news := ints l) rfl rfl trivial U_sl_int sz_int by_int zs_int rfl rfl hw pK hrd (by rw [ints_length]; omega) (by intro u hu; obtain ⟨z, _, rfl⟩ := List.mem_map.1 hu; rfl) (by simp only [maxLen]; omega) (by omega) rfl (fun w v7 hw => ?_)
 refine z3 ?_
 exact end1 rfl rfl rfl (by rw [Nat.zero_add, List.nil_append] at hw; exact hw)
theorem ct_pool_Pool_Counts {q : Nat} {p : PlV} (hw : Sat G (plP q p L) w) (hl : p.counts.length ≤ 65536) : Calls Tryz.prog 8 #[.pointer (some ⟨q, 0, none⟩)] w (Ret fun u w' => Sat G (row 3 1 u p.counts.length (ints p.counts) :: plP q p L) w') := by
 obtain ⟨ca, cc, la, lc, he⟩ := pl_form hw
 rw [he] at hw
 have hcs : Knows (row 3 1 (.slice ca p.counts.length cc) p.counts.length (ints p.counts) :: row 4 1 (.slice la p.last.length lc) p.last.length (bls p.last) :: L) (SlV (.slice ca p.counts.length cc) (ints p.counts)) := rowI
 refine calls_of_x (args := [_]) Tryz.func8 rfl Tryz.ntmps8 rfl rfl ?_
 refine z9 ?_
 refine lD one_sl_int hw ?_
 refine x_call rfl rfl trivial cal_slices_Clone_int_int rfl (ct_slices_Clone_int_int hw (hcs.of sF) (by omega)) rfl (fun w v7 hv => ?_)
 refine z3 ?_
 exact end1 rfl rfl rfl (by rw [he]; exact hv)
end
def lastI (c : List Int) (l : List Bool) (k : Nat) : List Bool := (c.take k).map (fun x => decide (0 < x)) ++ l.drop k
theorem lastI_length {c : List Int} {l : List Bool} {k : Nat} (h : l.length = c.length) (hk : k ≤ c.length) : (lastI c l k).length = c.length := by
 unfold lastI; simp only [List.length_append, List.length_map, List.length_take, List.length_drop]; omega
theorem lastI_set {c : List Int} {l : List Bool} {k : Nat} {x : Int} (h : l.length = c.length) (hx : c[k]? = some x) : (lastI c l k).set k (decide (0 < x)) = lastI c l (k + 1) := by
 have hk : k < c.length := (List.getElem?_eq_some_iff.1 hx).1
 unfold lastI
 rw [take_step hx, List.map_append, List.set_append_right _ _ (by simp; omega)]
 rw [show k - (List.map (fun x => decide (0 < x)) (List.take k c)).length = 0 by simp; omega]
 rw [List.append_assoc]
 congr 1
 rw [List.drop_eq_getElem_cons (by omega : k < l.length)]
 rfl
theorem lastI_at {c : List Int} {l : List Bool} {k : Nat} {x : Int} (h : l.length = c.length) (hx : c[k]? = some x) : (lastI c l (k + 1)).getD k false = decide (0 < x) := by
 have hk : k < c.length := (List.getElem?_eq_some_iff.1 hx).1
 rw [← lastI_set h hx, List.getD]
 rw [List.getElem?_set_self (by rw [lastI_length h (by omega)]; exact hk)]
 rfl
theorem lastI_all {c : List Int} {l : List Bool} (h : l.length = c.length) : lastI c l c.length = c.map fun x => decide (0 < x) := by
 unfold lastI; rw [List.take_length, List.drop_eq_nil_of_le (by omega), List.append_nil]
theorem stP_settled {c : List Int} {l : List Bool} {k : Nat} {x : Int} (h : l.length = c.length) (hx : c[k]? = some x) : stP c (lastI c l (k + 1)) ((k : Int) + 1) = st1 x := by
 have hk : k < c.length := (List.getElem?_eq_some_iff.1 hx).1
 unfold stP st1
 rw [if_pos (by omega : thereP c ((k : Int) + 1)), show ((k : Int) + 1 - 1).toNat = k by omega, lastI_at h hx]
 have hc : c.getD k 0 = x := by rw [List.getD, hx]; rfl
 rw [hc]
 by_cases h0 : 0 < x <;> simp [h0]
theorem pl_form2 {q : Nat} {p : PlV} {G : Gh} {L : List Assn} {w : World} (hw : Sat G (plP q p L) w) : ∃ ca cc la lc, p.cv = .slice ca p.counts.length cc ∧ p.lv = .slice la p.last.length lc ∧ plP q p L = (blk q [.int .i64 p.refs, .slice ca p.counts.length cc, .slice la p.last.length lc, .pointer p.fr, .int .i64 p.t0, .int .i64 p.t1, .int .i64 p.t2, .int .i64 p.t3, .int .i64 p.t4, p.av, .int .i64 p.floor] 86 :: row 3 1 (.slice ca p.counts.length cc) p.counts.length (ints p.counts) :: row 4 1 (.slice la p.last.length lc) p.last.length (bls p.last) :: L) := by
 obtain ⟨ca, cc, h1⟩ := row_form (hw.pick (A := row 3 1 p.cv _ _) (.there .here))
 obtain ⟨la, lc, h2⟩ := row_form (hw.pick (A := row 4 1 p.lv _ _) (.there (.there .here)))
 exact ⟨ca, cc, la, lc, h1, h2, by unfold plP; simp only [PlV.cells, h1, h2]⟩
section
variable {G : Gh} {L R : List Assn} {w : World}
theorem ct_pool_Pool_Settle {q : Nat} {p : PlV} (hw : Sat G (plP q p L) w) (hav : ∃ a c, p.av = .slice a p.na c) (hf : 0 ≤ p.floor ∧ p.floor + p.na ≤ 1000000000000000) (hl : p.counts.length ≤ 65536) (hll : p.last.length = p.counts.length) (hnn : ∀ x ∈ p.counts, 0 ≤ x) :
  Calls Tryz.prog 76 #[.pointer (some ⟨q, 0, none⟩)] w (Ret fun u w' => u = .tuple #[] ∧ ∃ (fq : Nat) (fv : Value), Sat G (plP q { p with last := p.counts.map (fun x => decide (0 < x)), fr := some ⟨fq, 0, none⟩, t0 := 0, t1 := talN p.counts 1, t2 := 0, t3 := 0, t4 := talN p.counts 4, av := .slice none 0 0, na := 0, floor := p.floor + p.na } (blk fq [fv] 230 :: row 232 2 fv (freeR p.counts).length ((freeR p.counts).map runC).flatten :: L)) w') := by
 obtain ⟨ca, cc, la, lc, hcv, hlv, he⟩ := pl_form2 hw
 rw [hll] at he hlv
 refine calls_of_x (args := [_]) Tryz.func76 rfl Tryz.ntmps76 rfl rfl ?_
 refine z5 ?_
 refine x_call rfl rfl trivial cal_pool_Pool_Mark rfl (ct_pool_Pool_Mark hw hav hf) rfl (fun w v7 hv => ?_)
 obtain ⟨rfl, hw⟩ := hv
 rw [he] at hw
 refine z2 ?_
 refine x_st1 (l' := [_, _, _, _, _, _, _, _, _, _, _]) rfl trivial rfl rfl one_int rfl hw pK rfl rfl rfl (fun w hw => ?_)
 refine z2 ?_
 refine x_st1 (l' := [_, _, _, _, _, _, _, _, _, _, _]) rfl trivial rfl rfl one_sl_pool_act rfl hw pK rfl rfl rfl (fun w hw => ?_)
 refine z4 ?_
 refine x_call rfl rfl trivial cal_runs_New_int rfl (ct_runs_New_int hw) rfl (fun w v13 hv => ?_)
 obtain ⟨fq, rfl, hw⟩ := hv
 refine z2 ?_
 refine x_st1 (l' := [_, _, _, _, _, _, _, _, _, _, _]) rfl trivial rfl rfl one_p_runs_Set_int rfl hw pK rfl rfl rfl (fun w hw => ?_)
 refine z4 ?_
 refine x_build (v := .agg #[.int .i64 0, .int .i64 0, .int .i64 0, .int .i64 0, .int .i64 0]) rfl rfl trivial rfl (fun w => by kernel_rfl) ?_
 refine z2 ?_
 refine x_stN (cs := [.int .i64 0, .int .i64 0, .int .i64 0, .int .i64 0, .int .i64 0]) (l' := [.int .i64 p.refs, .slice ca p.counts.length cc, .slice la p.counts.length lc, .pointer (some ⟨fq, 0, none⟩), .int .i64 0, .int .i64 0, .int .i64 0, .int .i64 0, .int .i64 0, .slice none 0 0, .int .i64 (p.floor + p.na)]) rfl trivial rfl rfl many_a5_int rfl (by intro u hu; simp at hu; subst hu; rfl) hw pK (by simp) rfl (by kernel_rfl) (fun w hw => ?_)
 refine z6 ?_
 refine lD one_sl_int hw ?_
 refine z4 ?_
 have hw := hw.b [blk q _ _, row 3 _ _ _ _, row 4 _ _ _ _, blk fq _ _, row 232 _ _ _ _]
 refine x_loop (fun m e w => ∃ (k : Nat) (fv : Value), k ≤ p.counts.length ∧ m = p.counts.length - k ∧ e = [(0, .pointer (some ⟨q, 0, none⟩)), (23, .slice ca p.counts.length cc), (24, .int .i64 p.counts.length), (25, .int .i64 k)] ∧ Sat G (blk q [.int .i64 p.refs, .slice ca p.counts.length cc, .slice la p.counts.length lc, .pointer (some ⟨fq, 0, none⟩), .int .i64 0, .int .i64 (talN (p.counts.take k) 1), .int .i64 0, .int .i64 0, .int .i64 (talN (p.counts.take k) 4), .slice none 0 0, .int .i64 (p.floor + p.na)] 86 :: row 3 1 (.slice ca p.counts.length cc) p.counts.length (ints p.counts) :: row 4 1 (.slice la p.counts.length lc) p.counts.length (bls (lastI p.counts p.last k)) :: blk fq [fv] 230 :: row 232 2 fv (freeR (p.counts.take k)).length ((freeR (p.counts.take k)).map runC).flatten :: L) w)
  (m := p.counts.length) (e₀ := [(0, .pointer (some ⟨q, 0, none⟩)), (23, .slice ca p.counts.length cc), (24, .int .i64 p.counts.length), (25, .int .i64 (0 : Nat))]) sB
  ⟨0, .slice none 0 0, Nat.zero_le _, rfl, rfl, hw⟩ ?_
 rintro m e w ⟨k, fv, hk, rfl, rfl, hw⟩
 refine z5 ?_
 refine x_if rfl (fun h1 => ?_) (fun h1 => ?_)
 ·
  have hk' : k < p.counts.length := by omega
  obtain ⟨x, hx⟩ : ∃ x, p.counts[k]? = some x := ⟨_, List.getElem?_eq_getElem hk'⟩
  have hx0 := hnn x (List.mem_of_getElem? hx)
  have hxi : (ints p.counts)[k]? = some (.int .i64 x) := by simp only [ints, List.getElem?_map, hx]; rfl
  have hcs : Knows (row 3 1 (.slice ca p.counts.length cc) p.counts.length (ints p.counts) :: row 4 1 (.slice la p.counts.length lc) p.counts.length (bls (lastI p.counts p.last k)) :: blk fq [fv] 230 :: row 232 2 fv (freeR (p.counts.take k)).length ((freeR (p.counts.take k)).map runC).flatten :: L) (SlV (.slice ca p.counts.length cc) (ints p.counts)) := rowI
  obtain ⟨bb, oo, rfl⟩ := ((hcs.of sF).at hw).nn (by rw [ints_length]; omega)
  have hfr := freeR_ok p.counts.length (p.counts.take k) (by rw [List.length_take]; omega) (by omega)
  rw [List.length_take] at hfr
  have hT1 : talN (p.counts.take (k + 1)) 1 = talN (p.counts.take k) 1 + (if st1 x = 1 then 1 else 0) := by rw [take_step hx]; exact talN_snoc _ _ _
  have hT4 : talN (p.counts.take (k + 1)) 4 = talN (p.counts.take k) 4 + (if st1 x = 4 then 1 else 0) := by rw [take_step hx]; exact talN_snoc _ _ _
  have hTl1 := talN_le (p.counts.take k) 1
  have hTl4 := talN_le (p.counts.take k) 4
  rw [List.length_take] at hTl1 hTl4
  have hfs : freeR (p.counts.take (k + 1)) = if x = 0 then addR (freeR (p.counts.take k)) ((k : Int) + 1) ((k : Int) + 1) else freeR (p.counts.take k) := by rw [take_step hx, freeR_snoc, List.length_take, Nat.min_eq_left (by omega)]
  refine z6 ?_
  refine x_idx1 rfl rfl trivial U_sl_int sz_int rfl rfl ⟨by omega, by omega⟩ ?_
  refine x_ld rfl rfl trivial rfl (Loads.one one_int (((hcs.of sF).at hw).at (by rw [Int.toNat_natCast]; exact hxi))) ?_
  refine z8 ?_
  refine lD one_sl_bool hw ?_
  have hw := hw.pick (A := row 4 _ _ _ _) pK
  obtain ⟨-, lb, lcur, rfl, hl1, hl2, hl3, hw⟩ := row_some hw (by omega)
  refine z3 ?_
  refine x_idx1 rfl rfl trivial U_sl_bool sz_bool rfl rfl ⟨by omega, by omega⟩ ?_
  refine x_st1 (l' := bls (lastI p.counts p.last (k + 1)) ++ lcur) rfl trivial rfl rfl one_bool rfl hw pK (by simp [bls_length, lastI_length hll (by omega : k ≤ p.counts.length)]; omega) (by rw [Nat.zero_add, Int.toNat_natCast, List.set_append_left _ _ (by rw [bls_length, lastI_length hll (by omega)]; exact hk'), ← lastI_set hll hx]; simp [bls, List.map_set]) rfl (fun w hw => ?_)
  have hle := lastI_length (k := k + 1) hll (by omega)
  have hw := row_mk (xs := bls (lastI p.counts p.last (k + 1))) (m := p.counts.length) (z := 1) hw (by rw [bls_length, hle, Nat.mul_one]) hl1 hl2 (by rw [← hl3, List.length_append, List.length_append, bls_length, bls_length, hle, lastI_length hll (by omega)])
  have hz := hw.b [blk q _ _, row 3 _ _ _ _, row 4 _ _ _ _]
  have hw2 : Sat G (plP q ⟨p.refs, p.counts, .slice (some ⟨bb, oo, none⟩) p.counts.length cc, lastI p.counts p.last (k + 1), .slice (some ⟨lb, 0, none⟩) p.counts.length lc, some ⟨fq, 0, none⟩, 0, (talN (p.counts.take k) 1), 0, 0, (talN (p.counts.take k) 4), .slice none 0 0, 0, p.floor + p.na⟩ (blk fq [fv] 230 :: row 232 2 fv (freeR (p.counts.take k)).length ((freeR (p.counts.take k)).map runC).flatten :: L)) w := by
   show Sat G (blk q _ _ :: row 3 1 _ _ _ :: row 4 1 _ (lastI p.counts p.last (k + 1)).length _ :: _) w
   rw [hle]
   exact hz
  clear hw
  have hw := hw2
  obtain ⟨sx, hsx⟩ : ∃ sx, sx = st1 x := ⟨_, rfl⟩
  have h14 : sx = 1 ∨ sx = 4 := by rw [hsx]; unfold st1; split <;> simp
  obtain ⟨tx, ht1, ht4, htb⟩ : ∃ tx : Int, (sx = 1 → tx = (talN (p.counts.take k) 1)) ∧ (sx = 4 → tx = (talN (p.counts.take k) 4)) ∧ (0 ≤ tx ∧ tx ≤ 65536) := by
   rcases h14 with h | h
   ·exact ⟨_, fun _ => rfl, fun h' => by omega, by omega⟩
   exact ⟨_, fun h' => by omega, fun _ => rfl, by omega⟩
  refine z2 ?_
  refine x_draw [0, 1, 2, 3, 5, 6, 10, 11, 4, 7, 8, 9, 12, 13] mixed (by kernel_rfl) ?_
  replace hw := hw.drawn (w.drawn + 1)
  refine z8 ?_
  refine x_call rfl rfl trivial cal_pool_Pool_State rfl (ct_pool_Pool_State hw hl hle) (by kernel_rfl) (fun w v42 hv => ?_)
  have hv : v42 = .int .i64 sx ∧ Sat G (blk q [.int .i64 p.refs, .slice (some ⟨bb, oo, none⟩) p.counts.length cc, .slice (some ⟨lb, 0, none⟩) p.counts.length lc, .pointer (some ⟨fq, 0, none⟩), .int .i64 0, .int .i64 (talN (p.counts.take k) 1), .int .i64 0, .int .i64 0, .int .i64 (talN (p.counts.take k) 4), .slice none 0 0, .int .i64 (p.floor + p.na)] 86 :: row 3 1 (.slice (some ⟨bb, oo, none⟩) p.counts.length cc) p.counts.length (ints p.counts) :: row 4 1 (.slice (some ⟨lb, 0, none⟩) p.counts.length lc) p.counts.length (bls (lastI p.counts p.last (k + 1))) :: blk fq [fv] 230 :: row 232 2 fv (freeR (p.counts.take k)).length ((freeR (p.counts.take k)).map runC).flatten :: L) w := by
   obtain ⟨h3, h4⟩ := hv
   have h5 : Sat G (blk q _ _ :: row 3 1 _ _ _ :: row 4 1 _ (lastI p.counts p.last (k + 1)).length _ :: _) w := h4
   rw [hle] at h5
   exact ⟨by rw [hsx, ← stP_settled hll hx]; exact h3, h5⟩
  obtain ⟨rfl, hw⟩ := hv
  refine x_idxA rfl rfl trivial U_a5_int sz_int rfl rfl ⟨by omega, by omega⟩ ?_
  refine x_ld rfl rfl trivial rfl (Loads.blk1 (v := .int .i64 tx) one_int hw pK (by rcases h14 with rfl | rfl; (rw [ht1 rfl]; rfl); (rw [ht4 rfl]; rfl))) ?_
  refine z1 ?_
  refine x_idxA rfl rfl trivial U_a5_int sz_int rfl rfl ⟨by omega, by omega⟩ ?_
  refine x_st1 (l' := [.int .i64 p.refs, .slice (some ⟨bb, oo, none⟩) p.counts.length cc, .slice (some ⟨lb, 0, none⟩) p.counts.length lc, .pointer (some ⟨fq, 0, none⟩), .int .i64 0, .int .i64 (talN (p.counts.take (k + 1)) 1), .int .i64 0, .int .i64 0, .int .i64 (talN (p.counts.take (k + 1)) 4), .slice none 0 0, .int .i64 (p.floor + p.na)]) rfl trivial rfl rfl one_int rfl hw pK (by rcases h14 with rfl | rfl <;> rfl) (by
   rw [hT1, hT4, ← hsx]
   rcases h14 with rfl | rfl
   ·rw [ht1 rfl]; rfl
   ·rw [ht4 rfl]; rfl) (by kernel_rfl) (fun w hw => ?_)
  refine z6 ?_
  refine x_if rfl (fun h2 => ?_) (fun h2 => ?_)
  ·
   refine z4 ?_
   refine lD one_p_runs_Set_int hw ?_
   refine z4 ?_
   refine x_call rfl rfl trivial cal_runs_Set_int_Add rfl (ct_runs_Set_int_Add (hw.b [blk fq _ _, row 232 _ _ _ _]) (by omega) (by unfold RunOk; simp only; omega) hfr.1 (by omega)) rfl (fun w v61 hv => ?_)
   obtain ⟨-, fv', hw⟩ := hv
   refine z5 ?_
   rw [if_pos h2] at hfs
   refine ⟨p.counts.length - (k + 1), by omega, [(0, _), (23, _), (24, _), (25, .int .i64 (k + 1 : Nat))], sB, k + 1, fv', by omega, rfl, rfl, ?_⟩
   rw [hfs]
   exact hw.b [blk q _ _, row 3 _ _ _ _, row 4 _ _ _ _, blk fq _ _, row 232 _ _ _ _]
  refine z5 ?_
  rw [if_neg h2] at hfs
  refine ⟨p.counts.length - (k + 1), by omega, [(0, _), (23, _), (24, _), (25, .int .i64 (k + 1 : Nat))], sB, k + 1, fv, by omega, rfl, rfl, ?_⟩
  rw [hfs]
  exact hw
 refine z1 ?_
 exact end0 rfl rfl (by
 have hke : k = p.counts.length := by omega
 subst hke
 rw [List.take_length, lastI_all hll] at hw
 refine ⟨rfl, fq, fv, ?_⟩
 show Sat G (blk q _ _ :: row 3 1 _ _ _ :: row 4 1 _ (p.counts.map fun x => decide (0 < x)).length _ :: _) w
 rw [List.length_map]
 simp only [PlV.cells, hcv, hlv]
 exact hw)
end
def plN (refs : Int) (c : List Int) (cv lv : Value) (fq : Nat) : PlV := ⟨refs, c, cv, c.map (fun x => decide (0 < x)), lv, some ⟨fq, 0, none⟩, 0, talN c 1, 0, 0, talN c 4, .slice none 0 0, 0, 0⟩
abbrev setQ (fq : Nat) (fv : Value) (rs : List (Int × Int)) (L : List Assn) : List Assn := blk fq [fv] 230 :: row 232 2 fv rs.length (rs.map runC).flatten :: L
section
variable {G : Gh} {L R : List Assn} {w : World}
theorem ct_slices_Min_int_int {v : Value} {l : List Int} (hw : Sat G L w) (ka : Knows L (SlV v (ints l))) (h0 : 0 < l.length) (hl : l.length ≤ 1000000000) : Calls Tryz.prog 92 #[v] w (Ret fun r w' => (∃ m, r = .int .i64 m ∧ m ∈ l ∧ ∀ x ∈ l, m ≤ x) ∧ Sat G L w') := by
 obtain ⟨a, cap, rfl⟩ := (ka.at hw).form
 rw [ints_length]
 rw [ints_length] at ka
 obtain ⟨bb, oo, rfl⟩ := (ka.at hw).nn (by rw [ints_length]; omega)
 refine calls_of_x (args := [_]) Tryz.func92 rfl Tryz.ntmps92 rfl rfl ?_
 refine z11 ?_
 refine x_if rfl (fun h1 => ?_) (fun h1 => ?_)
 ·
  exact absurd h1 (by omega)
 refine z4 ?_
 refine x_idx1 rfl rfl trivial U_sl_int sz_int rfl rfl ⟨by omega, by omega⟩ ?_
 refine x_ld rfl rfl trivial rfl (Loads.one one_int ((ka.at hw).at (i := 0) (ints_at h0))) ?_
 refine z8 ?_
 refine x_loop (fun m e w => ∃ (k : Nat) (mn : Int), k ≤ l.length ∧ m = l.length - k ∧ e = [(0, .slice (some ⟨bb, oo, none⟩) l.length cap), (3, .int .i64 mn), (4, .int .i64 k)] ∧ (mn ∈ l ∧ ∀ x ∈ l.take k, mn ≤ x) ∧ Sat G L w)
  (m := l.length - 1) (e₀ := [(0, .slice (some ⟨bb, oo, none⟩) l.length cap), (3, .int .i64 (l.getD 0 0)), (4, .int .i64 (1 : Nat))]) sB
  ⟨1, _, by omega, rfl, rfl, by
 cases l with
 | nil => simp at h0
 | cons x l => simp, hw⟩ ?_
 rintro m e w ⟨k, mn, hk, rfl, rfl, ⟨hm1, hm2⟩, hw⟩
 refine z8 ?_
 refine x_if rfl (fun h3 => ?_) (fun h3 => ?_)
 ·
  have hk' : k < l.length := by omega
  obtain ⟨x, hx⟩ : ∃ x, l[k]? = some x := ⟨_, List.getElem?_eq_getElem hk'⟩
  refine z7 ?_
  refine x_idx1 rfl rfl trivial U_sl_int sz_int rfl rfl ⟨by omega, by omega⟩ ?_
  refine x_ld rfl rfl trivial rfl (Loads.one one_int ((ka.at hw).at (u := .int .i64 x) (by rw [Int.toNat_natCast]; simp only [ints, List.getElem?_map, hx]; rfl))) ?_
  refine x_min2 rfl rfl trivial rfl rfl ?_
  refine z7 ?_
  exact ⟨l.length - (k + 1), by omega, [(0, _), (3, _), (4, .int .i64 (k + 1 : Nat))], sB, k + 1, min mn x, by omega, rfl, rfl, ⟨by
    rcases Int.le_total mn x with h | h
    ·rw [Int.min_eq_left h]; exact hm1
    ·rw [Int.min_eq_right h]; exact List.mem_of_getElem? hx, fun y hy => by
    rw [take_step hx] at hy
    rcases List.mem_append.1 hy with hy | hy
    ·have := hm2 y hy; omega
    ·simp at hy; omega⟩, hw⟩
 refine z7 ?_
 exact end1 rfl rfl rfl ⟨⟨mn, rfl, hm1, fun x hx => hm2 x (by rw [List.take_of_length_le (by omega)]; exact hx)⟩, hw⟩
theorem ct_slices_Max_int_int {v : Value} {l : List Int} (hw : Sat G L w) (ka : Knows L (SlV v (ints l))) (h0 : 0 < l.length) (hl : l.length ≤ 1000000000) : Calls Tryz.prog 93 #[v] w (Ret fun r w' => (∃ m, r = .int .i64 m ∧ m ∈ l ∧ ∀ x ∈ l, x ≤ m) ∧ Sat G L w') := by
 obtain ⟨a, cap, rfl⟩ := (ka.at hw).form
 rw [ints_length]
 rw [ints_length] at ka
 obtain ⟨bb, oo, rfl⟩ := (ka.at hw).nn (by rw [ints_length]; omega)
 refine calls_of_x (args := [_]) Tryz.func93 rfl Tryz.ntmps93 rfl rfl ?_
 refine z11 ?_
 refine x_if rfl (fun h1 => ?_) (fun h1 => ?_)
 ·
  exact absurd h1 (by omega)
 refine z4 ?_
 refine x_idx1 rfl rfl trivial U_sl_int sz_int rfl rfl ⟨by omega, by omega⟩ ?_
 refine x_ld rfl rfl trivial rfl (Loads.one one_int ((ka.at hw).at (i := 0) (ints_at h0))) ?_
 refine z8 ?_
 refine x_loop (fun m e w => ∃ (k : Nat) (mn : Int), k ≤ l.length ∧ m = l.length - k ∧ e = [(0, .slice (some ⟨bb, oo, none⟩) l.length cap), (3, .int .i64 mn), (4, .int .i64 k)] ∧ (mn ∈ l ∧ ∀ x ∈ l.take k, x ≤ mn) ∧ Sat G L w)
  (m := l.length - 1) (e₀ := [(0, .slice (some ⟨bb, oo, none⟩) l.length cap), (3, .int .i64 (l.getD 0 0)), (4, .int .i64 (1 : Nat))]) sB
  ⟨1, _, by omega, rfl, rfl, by
 cases l with
 | nil => simp at h0
 | cons x l => simp, hw⟩ ?_
 rintro m e w ⟨k, mn, hk, rfl, rfl, ⟨hm1, hm2⟩, hw⟩
 refine z8 ?_
 refine x_if rfl (fun h3 => ?_) (fun h3 => ?_)
 ·
  have hk' : k < l.length := by omega
  obtain ⟨x, hx⟩ : ∃ x, l[k]? = some x := ⟨_, List.getElem?_eq_getElem hk'⟩
  refine z7 ?_
  refine x_idx1 rfl rfl trivial U_sl_int sz_int rfl rfl ⟨by omega, by omega⟩ ?_
  refine x_ld rfl rfl trivial rfl (Loads.one one_int ((ka.at hw).at (u := .int .i64 x) (by rw [Int.toNat_natCast]; simp only [ints, List.getElem?_map, hx]; rfl))) ?_
  refine x_max2 rfl rfl trivial rfl rfl ?_
  refine z7 ?_
  exact ⟨l.length - (k + 1), by omega, [(0, _), (3, _), (4, .int .i64 (k + 1 : Nat))], sB, k + 1, max mn x, by omega, rfl, rfl, ⟨by
    rcases Int.le_total mn x with h | h
    ·rw [Int.max_eq_right h]; exact List.mem_of_getElem? hx
    ·rw [Int.max_eq_left h]; exact hm1, fun y hy => by
    rw [take_step hx] at hy
    rcases List.mem_append.1 hy with hy | hy
    ·have := hm2 y hy; omega
    ·simp at hy; omega⟩, hw⟩
 refine z7 ?_
 exact end1 rfl rfl rfl ⟨⟨mn, rfl, hm1, fun x hx => hm2 x (by rw [List.take_of_length_le (by omega)]; exact hx)⟩, hw⟩
theorem ct_pool_over {refs : Int} {v : Value} {c : List Int} (hw : Sat G (row 3 1 v c.length (ints c) :: L) w) (hl : c.length ≤ 65536) (hnn : ∀ x ∈ c, 0 ≤ x) : Calls Tryz.prog 66 #[.int .i64 refs, v] w (Ret fun r w' => ∃ q cv lv fq fv, r = .pointer (some ⟨q, 0, none⟩) ∧ Sat G (plP q (plN refs c cv lv fq) (setQ fq fv (freeR c) L)) w') := by
 obtain ⟨a, cap, rfl⟩ := row_form hw
 refine calls_of_x (args := [_, _]) Tryz.func66 rfl Tryz.ntmps66 rfl rfl ?_
 refine z10 ?_
 refine x_mks rfl rfl trivial U_sl_bool sz_bool by_bool z_bool rfl rfl ⟨by omega, by omega⟩ (by omega) (by omega) hw rfl (fun w b10 hw => ?_)
 have hw : Sat G (blk b10 (bls (List.replicate c.length false)) 4 :: row 3 1 (.slice a c.length cap) c.length (ints c) :: L) w := by
  have e : bls (List.replicate c.length false) = rep c.length (.bool false) := by simp [bls, rep]
  rw [e]; exact hw
 have hw := row_full (z := 1) (m := c.length) hw (by rw [bls_length, List.length_replicate, Nat.mul_one]) (by simp only [maxLen]; omega)
 refine x_build (v := .agg #[.int .i64 refs, .slice a c.length cap, .slice (some ⟨b10, 0, none⟩) c.length c.length, .pointer none, .int .i64 0, .int .i64 0, .int .i64 0, .int .i64 0, .int .i64 0, .slice none 0 0, .int .i64 0]) rfl rfl trivial rfl (fun w => by kernel_rfl) ?_
 refine x_box rfl rfl trivial rfl rfl hw rfl (fun w b12 hw => ?_)
 have hw2 : Sat G (plP b12 ⟨refs, c, .slice a c.length cap, List.replicate c.length false, .slice (some ⟨b10, 0, none⟩) c.length c.length, none, 0, 0, 0, 0, 0, .slice none 0 0, 0, 0⟩ L) w := by
  have hz := hw.b [blk b12 _ _, row 3 _ _ _ _, row 4 _ _ _ _]
  show Sat G (blk b12 _ _ :: row 3 1 _ _ _ :: row 4 1 _ (List.replicate c.length false).length _ :: _) w
  rw [List.length_replicate]
  exact hz
 refine z5 ?_
 refine x_call rfl rfl trivial cal_pool_Pool_Settle rfl (ct_pool_Pool_Settle hw2 ⟨none, 0, rfl⟩ (show (0 : Int) ≤ 0 ∧ (0 : Int) + ((0 : Nat) : Int) ≤ 1000000000000000 by decide) hl (by simp) hnn) rfl (fun w v14 hv => ?_)
 obtain ⟨-, fq, fv, hw⟩ := hv
 refine z7 ?_
 exact end1 rfl rfl rfl ⟨b12, _, _, fq, fv, rfl, hw⟩
theorem ct_pool_New {n refs : Int} (hw : Sat G L w) : Calls Tryz.prog 35 #[.int .i64 n, .int .i64 refs] w (Ret fun r w' => (¬ (1 ≤ n ∧ n ≤ 65536 ∧ 2 ≤ refs ∧ refs < 65536) ∧ r = .tuple #[.pointer none, .int .i64 1] ∧ Sat G L w') ∨
  ((1 ≤ n ∧ n ≤ 65536 ∧ 2 ≤ refs ∧ refs < 65536) ∧ ∃ q cv lv fq fv, r = .tuple #[.pointer (some ⟨q, 0, none⟩), .int .i64 0] ∧ Sat G (plP q (plN refs (List.replicate n.toNat 0) cv lv fq) (setQ fq fv (freeR (List.replicate n.toNat 0)) L)) w')) := by
 refine calls_of_x (args := [_, _]) Tryz.func35 rfl Tryz.ntmps35 rfl rfl ?_
 refine z10 ?_
 refine x_call rfl rfl trivial cal_pool_right rfl (ct_pool_right hw) rfl (fun w v8 hv => ?_)
 obtain ⟨rfl, hw⟩ := hv
 refine x_notp rfl rfl trivial rfl ?_
 refine xl_nil ?_
 refine x_if rfl (fun h1 => ?_) (fun h1 => ?_)
 ·
  have h1' : ¬ (1 ≤ n ∧ n ≤ 65536 ∧ 2 ≤ refs ∧ refs < 65536) := by simpa using h1
  refine z6 ?_
  exact end2 rfl rfl rfl rfl (.inl ⟨h1', rfl, hw⟩)
 have h1' : 1 ≤ n ∧ n ≤ 65536 ∧ 2 ≤ refs ∧ refs < 65536 := by simpa using h1
 refine z5 ?_
 refine x_mks rfl rfl trivial U_sl_int sz_int by_int z_int rfl rfl ⟨by omega, by omega⟩ (by omega) (by omega) hw rfl (fun w b12 hw => ?_)
 have hw : Sat G (blk b12 (ints (List.replicate n.toNat 0)) 3 :: L) w := by
  have e : ints (List.replicate n.toNat 0) = rep n.toNat (.int .i64 0) := by simp [ints, rep]
  rw [e]; exact hw
 have hw := row_full (z := 1) (m := (List.replicate n.toNat (0 : Int)).length) hw (by rw [ints_length, Nat.mul_one]) (by rw [List.length_replicate]; simp only [maxLen]; omega)
 refine x_call rfl rfl trivial cal_pool_over rfl (ct_pool_over (v := .slice (some ⟨b12, 0, none⟩) n.toNat n.toNat) (c := List.replicate n.toNat 0) (by rw [List.length_replicate] at hw ⊢; exact hw) (by rw [List.length_replicate]; omega) (by intro x hx; rw [List.eq_of_mem_replicate hx]; decide)) rfl (fun w v13 hv => ?_)
 obtain ⟨q, cv, lv, fq, fv, rfl, hw⟩ := hv
 refine z4 ?_
 exact end2 rfl rfl rfl rfl (.inr ⟨h1', q, cv, lv, fq, fv, rfl, hw⟩)
theorem ct_pool_Load {refs : Int} {v : Value} {c : List Int} (hw : Sat G L w) (ka : Knows L (SlV v (ints c))) (hl9 : c.length ≤ 1000000000) : Calls Tryz.prog 51 #[.int .i64 refs, v] w (Ret fun r w' =>
  (¬ (1 ≤ (c.length : Int) ∧ (c.length : Int) ≤ 65536 ∧ 2 ≤ refs ∧ refs < 65536) ∧ r = .tuple #[.pointer none, .int .i64 1] ∧ Sat G L w') ∨
  ((1 ≤ (c.length : Int) ∧ (c.length : Int) ≤ 65536 ∧ 2 ≤ refs ∧ refs < 65536) ∧ ((¬ (∀ x ∈ c, 0 ≤ x ∧ x ≤ refs) ∧ r = .tuple #[.pointer none, .int .i64 13] ∧ Sat G L w') ∨
   ((∀ x ∈ c, 0 ≤ x ∧ x ≤ refs) ∧ ∃ q cv lv fq fv, r = .tuple #[.pointer (some ⟨q, 0, none⟩), .int .i64 0] ∧ Sat G (plP q (plN refs c cv lv fq) (setQ fq fv (freeR c) L)) w')))) := by
 obtain ⟨a, cap, rfl⟩ := (ka.at hw).form
 rw [ints_length]
 rw [ints_length] at ka
 refine calls_of_x (args := [_, _]) Tryz.func51 rfl Tryz.ntmps51 rfl rfl ?_
 refine z11 ?_
 refine x_call rfl rfl trivial cal_pool_right rfl (ct_pool_right hw) rfl (fun w v9 hv => ?_)
 obtain ⟨rfl, hw⟩ := hv
 refine x_notp rfl rfl trivial rfl ?_
 refine xl_nil ?_
 refine x_if rfl (fun h1 => ?_) (fun h1 => ?_)
 ·
  have h1' : ¬ (1 ≤ (c.length : Int) ∧ (c.length : Int) ≤ 65536 ∧ 2 ≤ refs ∧ refs < 65536) := by simpa using h1
  refine z6 ?_
  exact end2 rfl rfl rfl rfl (.inl ⟨h1', rfl, hw⟩)
 have h1' : 1 ≤ (c.length : Int) ∧ (c.length : Int) ≤ 65536 ∧ 2 ≤ refs ∧ refs < 65536 := by simpa using h1
 refine z5 ?_
 refine x_call rfl rfl trivial cal_slices_Min_int_int rfl (ct_slices_Min_int_int hw ka (by omega) hl9) rfl (fun w v12 hv => ?_)
 obtain ⟨⟨mn, rfl, hm1, hm2⟩, hw⟩ := hv
 refine z2 ?_
 refine xl_split (d := 14) rfl (fun h2 => ?_) (fun h2 => ?_)
 ·
  refine z6 ?_
  refine x_cond_true rfl ?_
  refine z6 ?_
  exact end2 rfl rfl rfl rfl (.inr ⟨h1', .inl ⟨fun h => by have := (h mn hm1).1; omega, rfl, hw⟩⟩)
 refine z1 ?_
 refine x_call rfl rfl ⟨_, rfl, rfl⟩ cal_slices_Max_int_int rfl (ct_slices_Max_int_int hw ka (by omega) hl9) rfl (fun w v16 hv => ?_)
 obtain ⟨⟨mx, rfl, hx1, hx2⟩, hw⟩ := hv
 refine z4 ?_
 refine x_if rfl (fun h3 => ?_) (fun h3 => ?_)
 ·
  refine z6 ?_
  exact end2 rfl rfl rfl rfl (.inr ⟨h1', .inl ⟨fun h => by have := (h mx hx1).2; omega, rfl, hw⟩⟩)
 have hall : ∀ x ∈ c, 0 ≤ x ∧ x ≤ refs := fun x hx => ⟨by have := hm2 x hx; omega, by have := hx2 x hx; omega⟩
 refine z5 ?_
 refine x_call rfl rfl trivial cal_slices_Clone_int_int rfl (ct_slices_Clone_int_int hw ka hl9) rfl (fun w v22 hv => ?_)
 have hw : Sat G (row 3 1 v22 c.length (ints c) :: L) w := hv
 refine x_call rfl rfl trivial cal_pool_over rfl (ct_pool_over hw (by omega) (fun x hx => (hall x hx).1)) rfl (fun w v23 hv => ?_)
 obtain ⟨q, cv, lv, fq, fv, rfl, hw⟩ := hv
 refine z4 ?_
 exact end2 rfl rfl rfl rfl (.inr ⟨h1', .inr ⟨hall, q, cv, lv, fq, fv, rfl, hw⟩⟩)
end
section
variable {P : Program} {n : Nat} {ops : Array Oper} {dr : Bool} {done r : List Nat} {K : Env → World → Prop} {e : Env} {w : World} {i d : Nat} {t s kt et : TypeId} {p : String} {af : Array Edge} {g : Option (Nat × Bool)} {x y : Operand} {G : Gh} {L R : List Assn} {m : Nat} {kv : KV} {a : Int}
theorem x_lenm (ho : ops[i]? = some ⟨some d, .call ⟨.builtin .len, #[x], #[s]⟩, t, p, af, g⟩) (hd : Nat.blt d n = true) (hg : Gd ops e g) (hs : P.underlying s = some (.map kt et)) (hx : ev e x = some (.map (some m)))
  (hw : Sat G L w) (hp : Pick (mapI m kv) L R) (h : XL P n ops dr (i :: done) r K ((d, .int .i64 kv.length) :: e) w) : XL P n ops dr done (i :: r) K e w := by
 obtain ⟨es, ck, hf, hw'⟩ := mapI_open (hw.pick hp)
 have h1 := run_getObj (P := P) hw'.pt_head (by simp)
 have hl : es.size = kv.length := by
  have := congrArg List.length hf.pairs
  simpa using this
 refine xl_read ho (by simpa [dstOk] using hd) hg (ρ := rh e) (by intro z hZ; simp [Op.operands, Call.operands] at hZ; exact oh1 hx hZ) (by simp [okind, hs]) (v := .int .i64 kv.length) ?_ h
 simp [execOp, resolve, invoke, builtin, rh_of hx, Builtin.len_, run_underlying hs, h1, goInt, hl]
theorem chk_lk2 {q : Nat} {z : Value} {gq : Option (Nat × Bool)} {pq : String} {aq : Array Edge} {tq : TypeId} (ho : ops[q]? = some ⟨some d, .lookup s x y true, tq, pq, aq, gq⟩) (hs : P.underlying s = some (.map kt et)) (hk : P.underlying kt = some (.int .i64)) (hz : (P.info? et).bind (·.zero) = some z) (hx : ev e x = some (.map (some m))) (hy : ev e y = some (.int .i64 a))
  {v0 : Value} {b0 : Bool} (hv : get e d = some (.tuple #[v0, .bool b0])) (hw : Sat G L w) (hp : Pick (mapI m kv) L R) (hv0 : (klook kv a).getD z = v0) (hb0 : (klook kv a).isSome = b0) : ChkE P n ops q e w := by
 intro o' ho' a' ha hwant
 have : o' = ⟨some d, .lookup s x y true, tq, pq, aq, gq⟩ := Option.some.inj (ho'.symm.trans ho)
 subst this
 subst hv0 hb0
 obtain ⟨es, ck, hf, hw'⟩ := mapI_open (hw.pick hp)
 refine ⟨.tuple #[(klook kv a).getD z, .bool (klook kv a).isSome], ?_, fun d' hd' => ?_⟩
 ·have hxa := ha.ev hx
  have hya := ha.ev hy
  have h1 := run_getObj (P := P) hw'.pt_head (by simp)
  have h2 := kfind_look a kv 0
  cases hi : P.info? et with
  | none => simp [hi] at hz
  | some inf =>
   have hzz : inf.zero = some z := by simpa [hi] using hz
   cases hkf : kfind kv a 0 with
   | none => rw [hkf] at h2; simp at h2; simp [execOp, hxa, hya, Instr.lookup, run_underlying hs, h1, run_checkKey hk, run_findKey hk hf, hkf, zeroValue, typeInfo, hi, hzz, ← h2]
   | some q => obtain ⟨q, u⟩ := q; rw [hkf] at h2; simp at h2; simp [execOp, hxa, hya, Instr.lookup, run_underlying hs, h1, run_checkKey hk, run_findKey hk hf, hkf, ← h2]
 cases hd'; exact ha.get d _ hv
end
def vtC (pq : Nat) (om : Nat) (av : Value) (floor : Int) : List Value := [.pointer (some ⟨pq, 0, none⟩), .map (some om), av, .int .i64 floor]
def onKV (on : List (Int × PgV)) : KV := on.map fun x => (x.1, .agg x.2.cells.toArray)
theorem onKV_look (n : Int) : ∀ on : List (Int × PgV), klook (onKV on) n = (on.find? fun x => x.1 == n).map fun x => .agg x.2.cells.toArray
 | [] => rfl
 | x :: on => by
  have ih := onKV_look n on
  simp only [onKV, List.map_cons, klook, List.find?_cons] at ih ⊢
  by_cases h : x.1 = n
  ·subst h; simp
  have h2 : (x.1 == n) = false := by simpa using h
  rw [h2]
  simp only [ih]
  first | rw [if_neg h] | rw [if_neg (fun e => h e.symm)]
section
variable {G : Gh} {L R : List Assn} {w : World}
theorem ct_vault_New {n refs : Int} (hw : Sat G L w) : Calls Tryz.prog 15 #[.int .i64 n, .int .i64 refs] w (Ret fun r w' => (¬ (1 ≤ n ∧ n ≤ 65536 ∧ 2 ≤ refs ∧ refs < 65536) ∧ r = .tuple #[.pointer none, .int .i64 1] ∧ Sat G L w') ∨
  ((1 ≤ n ∧ n ≤ 65536 ∧ 2 ≤ refs ∧ refs < 65536) ∧ ∃ vq om q cv lv fq fv, r = .tuple #[.pointer (some ⟨vq, 0, none⟩), .int .i64 0] ∧ Sat G (blk vq (vtC q om (.slice none 0 0) 0) 38 :: mapI om (onKV []) :: plP q (plN refs (List.replicate n.toNat 0) cv lv fq) (setQ fq fv (freeR (List.replicate n.toNat 0)) L)) w')) := by
 refine calls_of_x (args := [_, _]) Tryz.func15 rfl Tryz.ntmps15 rfl rfl ?_
 refine z9 ?_
 refine x_call rfl rfl trivial cal_pool_New rfl (ct_pool_New hw) rfl (fun w v11 hv => ?_)
 have hv : ∃ (pp : Option Addr) (er : Int), v11 = .tuple #[.pointer pp, .int .i64 er] ∧ ((er = 1 ∧ ¬ (1 ≤ n ∧ n ≤ 65536 ∧ 2 ≤ refs ∧ refs < 65536) ∧ Sat G L w) ∨ (er = 0 ∧ (1 ≤ n ∧ n ≤ 65536 ∧ 2 ≤ refs ∧ refs < 65536) ∧ ∃ q cv lv fq fv, pp = some ⟨q, 0, none⟩ ∧ Sat G (plP q (plN refs (List.replicate n.toNat 0) cv lv fq) (setQ fq fv (freeR (List.replicate n.toNat 0)) L)) w)) := by
  rcases hv with ⟨h1, h2, h3⟩ | ⟨h1, q, cv, lv, fq, fv, h2, h3⟩
  ·exact ⟨none, 1, h2, .inl ⟨rfl, h1, h3⟩⟩
  exact ⟨some ⟨q, 0, none⟩, 0, h2, .inr ⟨rfl, h1, q, cv, lv, fq, fv, rfl, h3⟩⟩
 obtain ⟨pp, er, rfl, hv2⟩ := hv
 refine z12 ?_
 refine x_if rfl (fun h1 => ?_) (fun h1 => ?_)
 ·
  obtain ⟨rfl, hn, hw⟩ := hv2.resolve_right (fun h => h1 h.1)
  refine z7 ?_
  exact end2 rfl rfl rfl rfl (.inl ⟨hn, rfl, hw⟩)
 obtain ⟨rfl, hn, q, cv, lv, fq, fv, rfl, hw⟩ := hv2.resolve_left (fun h => h1 (by rw [h.1]; decide))
 refine z4 ?_
 refine x_mkm rfl rfl trivial hw rfl (fun w m18 hw => ?_)
 refine x_build (v := .agg (vtC q m18 (.slice none 0 0) 0).toArray) rfl rfl trivial rfl (fun w => by kernel_rfl) ?_
 refine x_box rfl rfl trivial rfl rfl hw rfl (fun w b20 hw => ?_)
 refine z4 ?_
 exact end2 rfl rfl rfl rfl (.inr ⟨hn, b20, m18, q, cv, lv, fq, fv, rfl, hw⟩)
end
def stO (S : List PgV) : Assn := both (S.map pgO)
theorem PgV.Ok.both_mem {A M B C : List Assn} {p : PgV} (h : p.Ok A) (e : M = B ++ (A ++ C)) : p.Ok [both M] :=
 ⟨⟨h.its.sl.both_mem e, fun x hx => ⟨(h.its.it x hx).k.both_mem e, (h.its.it x hx).v.both_mem e, (h.its.it x hx).sk, (h.its.it x hx).sv⟩, h.its.len⟩, h.data.both_mem e, h.sd⟩
theorem PgV.Ok.pick {A : Assn} {L R : List Assn} {p : PgV} (h : p.Ok [A]) (q : Pick A L R) : p.Ok L :=
 ⟨⟨(h.its.sl.head _).pick q, fun x hx => ⟨((h.its.it x hx).k.head _).pick q, ((h.its.it x hx).v.head _).pick q, (h.its.it x hx).sk, (h.its.it x hx).sv⟩, h.its.len⟩, (h.data.head _).pick q, h.sd⟩
theorem stO_ok {S : List PgV} {p : PgV} (hm : p ∈ S) (hs : p.Sm) {L R : List Assn} (q : Pick (stO S) L R) : p.Ok L := by
 obtain ⟨B, C, rfl⟩ := List.append_of_mem hm
 have h1 : p.Ok [pgO p] := pgParts_ok hs .here
 exact (h1.both_mem (B := B.map pgO) (C := C.map pgO) (by simp)).pick q
theorem ones_pg {L : List Assn} {p : PgV} {G : Gh} {w : World} (h : p.Ok L) (hw : Sat G L w) : Ones p.cells := fun u hu => by
 obtain ⟨a1, c1, a2, c2, h1, h2, hcl⟩ := h.form hw
 rw [hcl] at hu
 simp only [List.mem_cons, List.not_mem_nil, or_false] at hu
 rcases hu with rfl | rfl | rfl | rfl | rfl <;> rfl
def pgZ : PgV := ⟨0, 0, [], .slice none 0 0, .slice none 0 0, [], 0⟩
def onF (on : List (Int × PgV)) (n : Int) : Option PgV := (on.find? fun x => x.1 == n).map (·.2)
theorem klook_on (on : List (Int × PgV)) (n : Int) : klook (onKV on) n = (onF on n).map fun p => .agg p.cells.toArray := by
 rw [onKV_look, onF, Option.map_map]; rfl
abbrev vtP (vq pq om : Nat) (av : Value) (floor : Int) (p : PlV) (on : List (Int × PgV)) (S : List PgV) (L : List Assn) : List Assn := blk vq (vtC pq om av floor) 38 :: mapI om (onKV on) :: stO S :: plP pq p L
theorem zv_api_Page : (Tryz.prog.info? 75).bind (·.zero) = some (.agg #[.int .i64 0, .int .i64 0, .slice none 0 0, .slice none 0 0, .int .i64 0]) := by kernel_rfl
section
variable {G : Gh} {L R : List Assn} {w : World}
theorem ct_vault_Vault_Read {vq pq om : Nat} {av : Value} {floor n : Int} {p : PlV} {on : List (Int × PgV)} {S : List PgV} (hw : Sat G (vtP vq pq om av floor p on S L) w) (hl : p.counts.length ≤ 65536)
  (hon : cntP p.counts n ≠ 0 → ∃ pg, onF on n = some pg ∧ pg ∈ S ∧ pg.Sm) : Calls Tryz.prog 28 #[.pointer (some ⟨vq, 0, none⟩), .int .i64 n] w (Ret fun r w' =>
  (cntP p.counts n = 0 ∧ r = .tuple #[.agg pgZ.cells.toArray, .int .i64 15] ∧ Sat G (vtP vq pq om av floor p on S L) w') ∨
  (cntP p.counts n ≠ 0 ∧ ∃ pg p', onF on n = some pg ∧ r = .tuple #[.agg p'.cells.toArray, .int .i64 0] ∧ p'.pg = pg.pg ∧ p'.Sm ∧ Sat G (pgO p' :: vtP vq pq om av floor p on S L) w')) := by
 refine calls_of_x (args := [_, _]) Tryz.func28 rfl Tryz.ntmps28 rfl rfl ?_
 refine z2 ?_
 refine x_alloc rfl rfl trivial z_api_Page hw rfl (fun w b4 hw => ?_)
 refine z8 ?_
 refine lD one_p_pool_Pool hw ?_
 refine z1 ?_
 refine x_call rfl rfl trivial cal_pool_Pool_Count rfl (ct_pool_Pool_Count (p := p) (q := pq) (hw.b [blk pq _ _, row 3 _ _ _ _, row 4 _ _ _ _]) hl) rfl (fun w v11 hv => ?_)
 obtain ⟨rfl, hw⟩ := hv
 refine z2 ?_
 refine x_if rfl (fun h1 => ?_) (fun h1 => ?_)
 ·
  refine z2 ?_
  refine x_build (v := .agg pgZ.cells.toArray) rfl rfl trivial rfl (fun w => by kernel_rfl) ?_
  refine x_stN (cs := pgZ.cells) (l' := pgZ.cells) rfl trivial rfl rfl many_api_Page rfl (by intro u hu; simp only [pgZ, PgV.cells, List.mem_cons, List.not_mem_nil, or_false] at hu; rcases hu with rfl | rfl | rfl | rfl | rfl <;> rfl) hw pK (by simp [pgZ, PgV.cells]) rfl rfl (fun w hw => ?_)
  refine z3 ?_
  exact end2 rfl rfl ⟨_, rfl, (Loads.blkA many_api_Page hw pK rfl)⟩ rfl (.inl ⟨h1, rfl, (hw.b [blk b4 _ _, blk vq _ _, mapI _ _, stO _, blk pq _ _, row 3 _ _ _ _, row 4 _ _ _ _]).tail⟩)
 obtain ⟨pg, hpg, hmem, hsm⟩ := hon h1
 refine z6 ?_
 refine lD one_m_int_api_Page hw ?_
 refine z1 ?_
 refine x_lk1 (v0 := .agg pg.cells.toArray) rfl rfl trivial U_m_int_api_Page U_int zv_api_Page rfl rfl hw pK (by rw [klook_on, hpg]; rfl) ?_
 refine x_call rfl rfl trivial cal_vault_copied rfl (ct_vault_copied (p := pg) hw (stO_ok hmem hsm pK)) rfl (fun w v20 hv => ?_)
 obtain ⟨p', rfl, hpe, hps, hw⟩ := hv
 refine x_stN (cs := p'.cells) (l' := p'.cells) rfl trivial rfl rfl many_api_Page rfl (ones_pg (pgParts_ok hps pK) hw) hw pK (by simp [PgV.cells]) rfl rfl (fun w hw => ?_)
 refine z3 ?_
 exact end2 rfl rfl ⟨_, rfl, (Loads.blkA many_api_Page hw pK rfl)⟩ rfl (.inr ⟨h1, pg, p', hpg, rfl, hpe, hps, (hw.b [blk b4 _ _, pgO _, blk vq _ _, mapI _ _, stO _, blk pq _ _, row 3 _ _ _ _, row 4 _ _ _ _]).tail⟩)
end
end Go.Proofs.YteifbglognfgdaaGreatDoor.X
