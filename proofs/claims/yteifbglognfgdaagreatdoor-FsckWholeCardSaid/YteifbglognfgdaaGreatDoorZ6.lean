/- The ground and the walks of this claim, part 6: XScan2 XLed XLed2 XFsck XFsck2 XFixed XFixed2 XLaw22 XOpen2. -/
import Derived.Test.YteifbglognfgdaaGreatDoorZ5
namespace Go.Proofs.YteifbglognfgdaaGreatDoor.X
set_option linter.unusedVariables false
set_option linter.unusedSimpArgs false
set_option maxRecDepth 20000
set_option maxHeartbeats 8000000
theorem itemsT_load {rd : Int → Option Pg} : ∀ {k : Nat} {n : Int}, soundT rd k n → ∀ y ∈ itemsT rd k n, (loadB rd y).1 = 0
 | 0, n, h => by
  obtain ⟨p, hp, h1, h2⟩ := h
  intro y hy
  rw [itemsT, hp] at hy
  exact h2 y hy
 | k + 1, n, h => by
  obtain ⟨p, hp, h1, h2⟩ := h
  intro y hy
  rw [itemsT, hp] at hy
  obtain ⟨x, hx, hy⟩ := List.mem_flatMap.1 hy
  exact itemsT_load (h2 x hx) y hy
theorem maxB_nil {a : Bys} {m : Nat} (h : a.length ≤ m) : (maxB a []).length ≤ m := by
 unfold maxB
 split
 ·exact Nat.zero_le _
 exact h
theorem own_lo {V : Va} (hok : V.Ok) {n : Int} {p : Pg} {i : Nat} (hp : V.rd n = some p) : (meetR (ownR p i) rgAll).lo.length ≤ 24 := by
 refine maxB_nil ?_
 unfold ownR keyAt
 cases hx : p.items[i]? with
 | none => simp
 | some x => exact items_keys (Va.rdok hok n p hp) x (List.mem_of_getElem? hx)
def rAll : RgV := ⟨rgAll, .slice none 0 0, .slice none 0 0⟩
theorem rAll_ok (L : List Assn) : rAll.Ok L := ⟨nilB, nilB, small_nil, small_nil⟩
theorem itemsR_all {rd : Int → Option Pg} {k : Nat} {n : Int} (h : keysIn rd k n rgAll) : itemsR rd rgAll (n, k) = itemsT rd k n := by
 unfold itemsR
 exact List.filter_eq_self.2 fun y hy => decide_eq_true (keysIn_items h y hy)
section
variable {G : Gh} {L R : List Assn} {w : World}
theorem Iter.swap {P : Program} {gf : FuncId} {lb : List Value} {A B : Assn} {Lx : List Assn} {n : Nat} {Pre : Nat → List Value → List Assn → Prop} (h : Iter P gf lb G (A :: B :: L) w n Pre (A :: B :: Lx)) : Iter P gf lb G (B :: A :: L) w n Pre (B :: A :: Lx) := fun l J Jx w' hy hw => by
 have hz : Sat G (J 0 :: A :: B :: L) w' := hw.bring (As := [J 0, A]) (.cons .here (.cons (.there .here) .nil))
 refine Calls.mono (h l J Jx w' hy hz) fun en w'' ⟨v, hv, hR⟩ => ⟨v, hv, ?_⟩
 rcases hR with hR | hR
 ·exact .inl (hR.bring (As := [J n, B]) (.cons .here (.cons (.there .here) .nil)))
 exact .inr (hR.bring (As := [Jx, B]) (.cons .here (.cons (.there .here) .nil)))
theorem prsOk {v : Value} {l : List PrV} {L R R' : List Assn} (hle : l.length ≤ 1000000000) (p1 : Pick (row 66 2 v l.length (l.map PrV.cells).flatten) L R) (p2 : Pick (both (l.flatMap prParts)) L R') : PrsOk L v l := by
 have key : ∀ x ∈ l, ∃ B C, l.flatMap prParts = B ++ (prParts x ++ C) := fun x hx => by
  obtain ⟨B, C, rfl⟩ := List.append_of_mem hx
  exact ⟨B.flatMap prParts, C.flatMap prParts, by simp⟩
 refine ⟨((SlT.row (by simp) (fun r hr => by obtain ⟨x, -, rfl⟩ := List.mem_map.1 hr; rfl)).head _).pick p1, fun x hx => ?_, fun x hx => ?_, hle⟩
 ·obtain ⟨B, C, e⟩ := key x hx
  exact ((Knows.both_mem (A := prParts x) (rowB rfl .here) e).head _).pick p2
 obtain ⟨B, C, e⟩ := key x hx
 exact ((Knows.both_mem (A := prParts x) (rowB rfl (.there .here)) e).head _).pick p2
theorem ct_walk_Scan {vq : Nat} {V : Va} {t : Tr} (hw : Sat G (vaA vq V :: L) w) (hok : V.Ok) (ht : treeNone t ∨ ∃ M, Stands V.rd t M) :
  Calls Tryz.prog 25 #[.pointer (some ⟨vq, 0, none⟩), .agg (treeC t).toArray, .agg rAll.cells.toArray] w (Ret fun u w' => ∃ (b1 b2 : Nat) (v : Value) (l : List PrV), u = .func (.func 104) #[] #[.pointer (some ⟨b2, 0, none⟩)] ∧ (l.map PrV.pr = flatR V.rd t ∧ l.length ≤ 1000000000) ∧ Sat G (blk b2 [.func (.func 105) #[] #[.pointer (some ⟨b1, 0, none⟩)]] 133 :: blk b1 [v] 58 :: row 66 2 v l.length (l.map PrV.cells).flatten :: both (l.flatMap prParts) :: vaA vq V :: L) w') := by
 obtain ⟨kk, hkk⟩ : ∃ kk, kk = (t.height - 1).toNat := ⟨_, rfl⟩
 have hst : t.root ≠ 0 → ∃ M, Stands V.rd t M := fun h => ht.resolve_left fun hn => h hn.1
 have hs : t.root ≠ 0 → soundT V.rd kk t.root ∧ ∃ r', keysIn V.rd kk t.root r' := fun h => by
  obtain ⟨M, hM⟩ := hst h
  rw [hkk]; exact ⟨hM.sound, _, hM.keys⟩
 obtain ⟨its, hits⟩ : ∃ its, its = if t.root = 0 then [] else itemsR V.rd rAll.rg (t.root, kk) := ⟨_, rfl⟩
 have hits2 : its = if t.root = 0 then [] else itemsT V.rd kk t.root := by
  rw [hits]
  by_cases h : t.root = 0
  ·rw [if_pos h, if_pos h]
  obtain ⟨M, hM⟩ := hst h
  rw [if_neg h, if_neg h, hkk]
  exact itemsR_all hM.keys
 have hnum : t.root ≠ 0 → numT V.rd kk t.root ≤ 1000000000 := fun h => by
  obtain ⟨M, hM⟩ := hst h
  have h1 := hM.num
  have h2 := Va.met_le hok hM.nd hM.th
  rw [hkk]; omega
 have hld : ∀ x ∈ its, (loadB V.rd x).1 = 0 := fun x hx => by
  rw [hits2] at hx
  by_cases h : t.root = 0
  ·rw [if_pos h] at hx; simp at hx
  rw [if_neg h] at hx; exact itemsT_load (hs h).1 x hx
 have hfl : flatR V.rd t = its.map (prT V.rd) := by
  unfold flatR
  rw [hits2, ← hkk]
  by_cases h : t.root = 0
  ·rw [if_pos h, if_pos h]; rfl
  rw [if_neg h, if_neg h, flat_items]
 have hle : its.length ≤ 1000000000 := by
  have e := congrArg List.length hfl
  rw [List.length_map] at e
  rw [← e]
  unfold flatR
  by_cases h : t.root = 0
  ·rw [if_pos h]; simp
  obtain ⟨M, hM⟩ := hst h
  rw [if_neg h]
  have h1 := hM.items
  have h2 := hM.many
  have h3 := Va.met_le hok hM.nd hM.th
  omega
 refine calls_of_x (args := [_, _, _]) Tryz.func25 rfl Tryz.ntmps25 rfl rfl ?_
 refine z2 ?_
 refine x_box rfl rfl trivial rfl rfl hw rfl (fun w b4 hw => ?_)
 refine x_box rfl rfl trivial rfl rfl hw rfl (fun w b5 hw => ?_)
 refine z5 ?_
 refine lA (l := treeC t) many_api_Tree hw ?_
 refine lA (l := rAll.cells) many_api_Range hw ?_
 refine x_call rfl rfl trivial cal_walk_pairs rfl (ct_walk_pairs (kk := kk) (r := rAll) (its := its) (hw.b [vaA vq V]) hok hs hits hnum (fun n p i hp => own_lo hok hp) (rAll_ok _) hld hle) rfl (fun w v13 hv => ?_)
 obtain ⟨v, l, rfl, hl, hw⟩ := hv
 have hll := congrArg List.length hl
 rw [List.length_map, List.length_map] at hll
 obtain ⟨oa, oc, rfl⟩ := row_form hw
 refine z9 ?_
 refine x_call rfl rfl trivial cal_slices_All_api_Pair_api_Pair rfl (ct_slices_All_api_Pair_api_Pair hw) rfl (fun w v17 hv => ?_)
 obtain ⟨b1, rfl, hw⟩ := hv
 refine x_call rfl rfl trivial cal_walk_told rfl (ct_walk_told hw) rfl (fun w v18 hv => ?_)
 obtain ⟨b2, rfl, hw⟩ := hv
 refine z3 ?_
 exact end1 rfl rfl rfl ⟨b1, b2, .slice oa l.length oc, l, rfl, ⟨by rw [hl, hfl], by omega⟩, (hw.b [blk b4 _ _, blk b5 _ _]).tail.tail⟩
theorem it_scan {b1 b2 : Nat} {v : Value} {l : List PrV} (hle : l.length ≤ 1000000000) (hll : ∀ x ∈ l, Small x.pr.1 ∧ Small x.pr.2) :
  Iter Tryz.prog 104 [.pointer (some ⟨b2, 0, none⟩)] G (blk b2 [.func (.func 105) #[] #[.pointer (some ⟨b1, 0, none⟩)]] 133 :: blk b1 [v] 58 :: row 66 2 v l.length (l.map PrV.cells).flatten :: both (l.flatMap prParts) :: L) w l.length (TPre l)
   (blk b2 [.func (.func 105) #[] #[.pointer (some ⟨b1, 0, none⟩)]] 133 :: blk b1 [v] 58 :: row 66 2 v l.length (l.map PrV.cells).flatten :: both (l.flatMap prParts) :: L) :=
 it_told (gf := 105) (lb := [.pointer (some ⟨b1, 0, none⟩)]) cal_slices_All_api_Pair_api_Pair_1 hll fun X w =>
  Iter.swap (it_All_pairs (L := X :: row 66 2 v l.length (l.map PrV.cells).flatten :: both (l.flatMap prParts) :: L) (prsOk hle (.there .here) (.there (.there .here))) fun b c => prsOk hle (.there (.there (.there .here))) (.there (.there (.there (.there .here)))))
end
def firstsL (A : List Int) : List Int := A.foldl (fun D k => if k ∈ D then D else D ++ [k]) []
theorem firstsL_snoc (A : List Int) (k : Int) : firstsL (A ++ [k]) = if k ∈ firstsL A then firstsL A else firstsL A ++ [k] := by
 unfold firstsL; rw [List.foldl_append]; rfl
theorem firstsL_spec : ∀ (n : Nat) (A : List Int), A.length = n → (∀ a, a ∈ firstsL A ↔ a ∈ A) ∧ (firstsL A).Nodup := by
 intro n
 induction n with
 | zero => intro A h; rw [List.eq_nil_of_length_eq_zero h]; exact ⟨fun a => by simp [firstsL], by simp [firstsL]⟩
 | succ n ih =>
  intro A h
  obtain ⟨B, k, rfl⟩ : ∃ B k, A = B ++ [k] := ⟨A.dropLast, A.getLast (by intro he; subst he; simp at h), (List.dropLast_concat_getLast _).symm⟩
  obtain ⟨h1, h2⟩ := ih B (by simpa using h)
  rw [firstsL_snoc]
  by_cases hk : k ∈ firstsL B
  ·rw [if_pos hk]
   refine ⟨fun a => ?_, h2⟩
   rw [h1, List.mem_append]
   exact ⟨.inl, fun h => h.elim id fun h => by simp at h; subst h; exact (h1 _).1 hk⟩
  rw [if_neg hk]
  refine ⟨fun a => by rw [List.mem_append, List.mem_append, h1], ?_⟩
  rw [List.nodup_append]
  exact ⟨h2, by simp, fun a ha b hb => by simp at hb; subst hb; intro e; subst e; exact hk ha⟩
theorem mem_firstsL {A : List Int} {a : Int} : a ∈ firstsL A ↔ a ∈ A := (firstsL_spec _ A rfl).1 a
theorem firstsL_nodup (A : List Int) : (firstsL A).Nodup := (firstsL_spec _ A rfl).2
def mtK (A : List Int) : KV := (firstsL A).map fun n => (n, Value.int .i64 ((A.count n : Nat) : Int))
theorem mtK_keys (A : List Int) : (mtK A).map (·.1) = firstsL A := by simp [mtK, Function.comp_def]
theorem klook_mt (A : List Int) (k : Int) : klook (mtK A) k = if k ∈ A then some (.int .i64 ((A.count k : Nat) : Int)) else none := by
 by_cases h : k ∈ A
 ·rw [if_pos h]
  exact mem_klook (by rw [mtK_keys]; exact firstsL_nodup A) (List.mem_map.2 ⟨k, mem_firstsL.2 h, rfl⟩)
 rw [if_neg h, klook_none, mtK_keys, mem_firstsL]; exact h
theorem klook_mt_getD (A : List Int) (k : Int) : (klook (mtK A) k).getD (.int .i64 0) = .int .i64 ((A.count k : Nat) : Int) := by
 rw [klook_mt]
 by_cases h : k ∈ A
 ·rw [if_pos h]; rfl
 rw [if_neg h, List.count_eq_zero_of_not_mem h]; rfl
theorem kput_map {f : Int → Value} {k : Int} {v : Value} : ∀ {D : List Int}, D.Nodup → kput (D.map fun n => (n, f n)) k v = if k ∈ D then D.map fun n => (n, if n = k then v else f n) else (D.map fun n => (n, f n)) ++ [(k, v)]
 | [], _ => by simp [kput]
 | d :: D, h => by
  rw [List.nodup_cons] at h
  have ih := kput_map (f := f) (k := k) (v := v) h.2
  simp only [List.map_cons, kput]
  by_cases hk : k = d
  ·subst hk
   rw [if_pos rfl, if_pos (List.mem_cons_self ..), if_pos rfl]
   congr 1
   refine List.map_congr_left fun n hn => ?_
   rw [if_neg (by intro e; subst e; exact h.1 hn)]
  rw [if_neg hk, ih]
  by_cases hD : k ∈ D
  ·rw [if_pos hD, if_pos (List.mem_cons_of_mem _ hD), if_neg (fun e => hk e.symm)]
  rw [if_neg hD, if_neg (by simp [hk, hD])]; rfl
theorem mt_put (A : List Int) (k : Int) : kput (mtK A) k (.int .i64 ((A.count k : Nat) + 1 : Int)) = mtK (A ++ [k]) := by
 unfold mtK
 rw [kput_map (firstsL_nodup A), firstsL_snoc]
 have hc : ∀ n, n ≠ k → (A ++ [k]).count n = A.count n := fun n hn => by rw [List.count_append, List.count_singleton]; simp [Ne.symm hn]
 have hk1 : (A ++ [k]).count k = A.count k + 1 := by rw [List.count_append, List.count_singleton]; simp
 by_cases hk : k ∈ firstsL A
 ·rw [if_pos hk, if_pos hk]
  refine List.map_congr_left fun n hn => ?_
  by_cases he : n = k
  ·subst he; rw [if_pos rfl, hk1]; rfl
  rw [if_neg he, hc n he]
 rw [if_neg hk, if_neg hk, List.map_append]
 congr 1
 ·refine List.map_congr_left fun n hn => ?_
  rw [hc n (by intro e; subst e; exact hk hn)]
 rw [List.map_cons, hk1]; rfl
structure Ldj (rd : Int → Option Pg) (roots W st A : List Int) : Prop where
 nd : (W ++ st).Nodup
 mem : ∀ a, a ∈ A ↔ a ∈ W ∨ a ∈ st
 min : ∀ U : Int → Prop, (∀ r ∈ roots, U r) → (∀ n, U n → ∀ k ∈ kidsOf rd n, U k) → ∀ a ∈ A, U a
theorem Ldj.start (rd : Int → Option Pg) (roots : List Int) : Ldj rd roots [] [] [] := ⟨by simp, fun a => by simp, fun U _ _ a h => by simp at h⟩
theorem Ldj.arrow {rd : Int → Option Pg} {roots W st A : List Int} {k : Int} (h : Ldj rd roots W st A) (hk : ∀ U : Int → Prop, (∀ r ∈ roots, U r) → (∀ n, U n → ∀ k ∈ kidsOf rd n, U k) → U k) : Ldj rd roots W (if A.count k = 0 then st ++ [k] else st) (A ++ [k]) := by
 have hmin : ∀ U : Int → Prop, (∀ r ∈ roots, U r) → (∀ n, U n → ∀ k ∈ kidsOf rd n, U k) → ∀ a ∈ A ++ [k], U a := fun U h1 h2 a ha => by
  rcases List.mem_append.1 ha with ha | ha
  ·exact h.min U h1 h2 a ha
  simp at ha; subst ha; exact hk U h1 h2
 by_cases hm : k ∈ A
 ·rw [if_neg (by have := List.count_pos_iff.2 hm; omega)]
  refine ⟨h.nd, fun a => ?_, hmin⟩
  rw [List.mem_append, ← h.mem a]
  exact ⟨fun h => h.elim id fun h => by simp at h; subst h; exact hm, .inl⟩
 rw [if_pos (List.count_eq_zero_of_not_mem hm)]
 refine ⟨?_, fun a => ?_, hmin⟩
 ·rw [← List.append_assoc, List.nodup_append]
  refine ⟨h.nd, by simp, fun a ha b hb => ?_⟩
  simp at hb; subst hb; intro e; subst e
  exact hm ((h.mem a).2 (List.mem_append.1 ha))
 rw [List.mem_append, List.mem_append, h.mem a, or_assoc]
theorem Ldj.visit {rd : Int → Option Pg} {roots W st A : List Int} {n : Int} (h : Ldj rd roots W (st ++ [n]) A) : Ldj rd roots (W ++ [n]) st A := by
 refine ⟨?_, fun a => ?_, h.min⟩
 ·have h1 := h.nd
  rw [List.append_assoc]
  refine (List.Perm.nodup_iff ?_).1 h1
  exact List.Perm.append_left W (List.perm_append_comm)
 rw [h.mem a, List.mem_append, List.mem_append]
 constructor
 ·rintro (h | h | h)
  ·exact .inl (.inl h)
  ·exact .inr h
  exact .inl (.inr h)
 rintro ((h | h) | h)
 ·exact .inl h
 ·exact .inr (.inr h)
 exact .inr (.inl h)
theorem Ldj.led {rd : Int → Option Pg} {roots W A : List Int} (h : Ldj rd roots W [] A) (ha : A = roots ++ W.flatMap (kidsOf rd)) : Led rd roots W A := by
 have h1 := h.nd
 rw [List.append_nil] at h1
 exact ⟨h1, ha, fun a hx => ((h.mem a).1 hx).resolve_right (by simp), fun n hn => (h.mem n).2 (.inl hn), fun U hr hc n hn => h.min U hr hc n ((h.mem n).2 (.inl hn))⟩
theorem Ldj.sub {rd : Int → Option Pg} {roots W st A U : List Int} (h : Ldj rd roots W st A) (h1 : ∀ r ∈ roots, r ∈ U) (h2 : ∀ n ∈ U, ∀ k ∈ kidsOf rd n, k ∈ U) : ∀ a ∈ A, a ∈ U := h.min (· ∈ U) h1 h2
theorem kidsOf_le {rd : Int → Option Pg} (h : RdOk rd) (n : Int) : (kidsOf rd n).length ≤ 8 := by
 unfold kidsOf
 cases hr : rd n with
 | none => simp
 | some p => exact kidsP_le (h n p hr)
theorem kidsOf_sum {rd : Int → Option Pg} (h : RdOk rd) : ∀ W : List Int, (W.flatMap (kidsOf rd)).length ≤ 8 * W.length
 | [] => by simp
 | n :: W => by
  have h1 := kidsOf_sum h W
  have h2 := kidsOf_le h n
  rw [List.flatMap_cons, List.length_append, List.length_cons]; omega
theorem count_snoc_self (A : List Int) (k : Int) : (A ++ [k]).count k = A.count k + 1 := by rw [List.count_append, List.count_singleton]; simp
section
variable {G : Gh} {L R : List Assn} {w : World}
theorem ct_fork_led {vq : Nat} {V : Va} {lv : Value} {ts : List Tr} {U : List Int} (hw : Sat G (vaA vq V :: L) w) (hok : V.Ok) (kl : Knows L (SlT 3 lv (ts.map treeC))) (hll : ts.length ≤ 1000) (hr0 : ∀ t ∈ ts, 0 ≤ t.root) (hU1 : ∀ r ∈ rootsOf ts, r ∈ U) (hU2 : ∀ n ∈ U, V.rd n ≠ none) (hU3 : ∀ n ∈ U, ∀ k ∈ kidsOf V.rd n, k ∈ U) :
  Calls Tryz.prog 58 #[.pointer (some ⟨vq, 0, none⟩), lv] w (Ret fun u w' => ∃ m W A, u = .tuple #[.map (some m), .int .i64 0] ∧ Led V.rd (rootsOf ts) W A ∧ Sat G (mapI m (mtK A) :: vaA vq V :: L) w') := by
 obtain ⟨la, lc, hlv, -, -⟩ := (kl.at hw.tail).form
 rw [List.length_map] at hlv
 subst hlv
 refine calls_of_x (args := [_, _]) Tryz.func58 rfl Tryz.ntmps58 rfl rfl ?_
 refine z7 ?_
 refine x_mkm rfl rfl trivial hw rfl (fun w mm hw => ?_)
 refine z10 ?_
 refine x_len rfl rfl trivial (by kernel_rfl) U_sl_api_Tree rfl ?_
 refine z3 ?_
 have hw := row_nil hw 3 1
 have hz := hw.b [mapI mm _, row 3 1 (.slice none 0 0) _ _, vaA vq V]
 clear hw
 have hw : Sat G (mapI mm (mtK []) :: row 3 1 (.slice none 0 0) ([] : List Int).length (ints []) :: vaA vq V :: L) w := hz
 refine x_loop (fun m e w => ∃ (j : Nat) (st A : List Int) (tv : Value), j ≤ ts.length ∧ m = ts.length - j ∧ e = [(0, .pointer (some ⟨vq, 0, none⟩)), (6, .map (some mm)), (7, tv), (16, .slice la ts.length lc), (17, .int .i64 ts.length), (18, .int .i64 j)] ∧ (Ldj V.rd (rootsOf ts) [] st A ∧ A = rootsOf (ts.take j)) ∧ Sat G (mapI mm (mtK A) :: row 3 1 tv st.length (ints st) :: vaA vq V :: L) w)
  (m := ts.length) (e₀ := [(0, .pointer (some ⟨vq, 0, none⟩)), (6, .map (some mm)), (7, .slice none 0 0), (16, .slice la ts.length lc), (17, .int .i64 ts.length), (18, .int .i64 (0 : Nat))]) sB
  ⟨0, [], [], _, Nat.zero_le _, rfl, rfl, ⟨Ldj.start _ _, rfl⟩, hw⟩ ?_
 rintro m e w ⟨j, st, A, tv, hj, rfl, rfl, ⟨hld, hA⟩, hw⟩
 have hAl : A.length ≤ 1000 := by rw [hA]; have := rootsOf_len (ts.take j); rw [List.length_take] at this; omega
 have hstl : st.length ≤ 65536 := by
  have := Va.met_le hok (met := st) (by have := hld.nd; simpa using this) (fun n hn => hU2 n (hld.sub hU1 hU3 n ((hld.mem n).2 (.inr hn))))
  exact this
 refine z5 ?_
 refine x_if rfl (fun h1 => ?_) (fun h1 => ?_)
 ·
  have hjl : j < ts.length := by omega
  obtain ⟨t, ht⟩ : ∃ t, ts[j]? = some t := ⟨_, List.getElem?_eq_getElem hjl⟩
  have hxr : (ts.map treeC)[j]? = some (treeC t) := by rw [List.getElem?_map, ht]; rfl
  have hr1 := hr0 t (List.mem_of_getElem? ht)
  have hcl := List.count_le_length (a := t.root) (l := A)
  have hA1 : rootsOf (ts.take (j + 1)) = A ++ (if 0 < t.root then [t.root] else []) := by rw [take_step ht, rootsOf_snoc, hA]
  obtain ⟨lb, lo, hla⟩ := ((kl.of sF).at hw).nn (by rw [List.length_map]; omega)
  cases hla
  refine z5 ?_
  refine x_idx rfl rfl trivial U_sl_api_Tree sz_api_Tree rfl rfl ⟨by omega, by omega⟩ ?_
  refine x_ld rfl rfl trivial rfl (Loads.many (cs := treeC t) many_api_Tree rfl (by rw [Int.toNat_natCast]; exact ((kl.of sF).at hw).at hxr)) ?_
  refine x_alloc rfl rfl trivial z_api_Tree hw rfl (fun w b9 hw => ?_)
  refine x_stN (cs := treeC t) (l' := treeC t) rfl trivial rfl rfl many_api_Tree rfl (by intro u hu; simp [treeC] at hu; rcases hu with rfl | rfl | rfl <;> rfl) hw pK (by simp [treeC]) rfl rfl (fun w hw => ?_)
  refine z5 ?_
  refine lD (v := .int .i64 t.root) one_int hw ?_
  refine z2 ?_
  refine x_if rfl (fun h2 => ?_) (fun h2 => ?_)
  ·
   refine z5 ?_
   have hA2 : rootsOf (ts.take (j + 1)) = A := by rw [hA1, if_neg (by omega), List.append_nil]
   exact ⟨ts.length - (j + 1), by omega, [(0, _), (6, _), (7, _), (16, _), (17, _), (18, .int .i64 (j + 1 : Nat))], sB, j + 1, st, A, _, by omega, rfl, rfl, ⟨hld, hA2.symm⟩, (hw.b [blk b9 _ _]).tail⟩
  have hA2 : rootsOf (ts.take (j + 1)) = A ++ [t.root] := by rw [hA1, if_pos (by omega)]
  have hrt : t.root ∈ rootsOf ts := by
   unfold rootsOf
   exact List.mem_filter.2 ⟨List.mem_map.2 ⟨t, List.mem_of_getElem? ht, rfl⟩, by simp; omega⟩
  have hld2 := hld.arrow (k := t.root) (fun U h1 _ => h1 _ hrt)
  refine z5 ?_
  refine lD (v := .int .i64 t.root) one_int hw ?_
  refine x_lk1 (v0 := .int .i64 ((A.count t.root : Nat) : Int)) rfl rfl trivial U_m_int_int U_int zv_int rfl rfl hw pK (klook_mt_getD _ _) ?_
  refine z1 ?_
  refine x_mu rfl trivial U_m_int_int U_int rfl rfl rfl hw pK rfl (fun w hw => ?_)
  rw [mt_put] at hw
  refine z5 ?_
  refine lD (v := .int .i64 t.root) one_int hw ?_
  refine x_lk1 (v0 := .int .i64 ((A.count t.root : Nat) + 1 : Int)) rfl rfl trivial U_m_int_int U_int zv_int rfl rfl hw pK (by rw [klook_mt_getD, count_snoc_self]; rfl) ?_
  refine z2 ?_
  refine x_if rfl (fun h3 => ?_) (fun h3 => ?_)
  ·
   have h0 : A.count t.root = 0 := by omega
   rw [if_pos h0] at hld2
   refine z3 ?_
   refine lD (v := .int .i64 t.root) one_int hw ?_
   refine x_bs1 (cs := [.int .i64 t.root]) rfl rfl trivial U_sl_int sz_int zs_int (by decide) rfl rfl rfl hw rfl (fun w b38 hw => ?_)
   refine x_app (m := st.length) (k := 1) (news := [.int .i64 t.root]) rfl rfl trivial U_sl_int sz_int by_int zs_int rfl rfl hw pK (Rd.blk0 hw pK) rfl (by intro u hu; simp at hu; subst hu; rfl) (by simp only [maxLen]; omega) (by omega) rfl (fun w v39 hw => ?_)
   refine z6 ?_
   have e1 : ints st ++ [.int .i64 t.root] = ints (st ++ [t.root]) := by simp [ints]
   have e2 : st.length + 1 = (st ++ [t.root]).length := by simp
   rw [e1, e2] at hw
   exact ⟨ts.length - (j + 1), by omega, [(0, _), (6, _), (7, v39), (16, _), (17, _), (18, .int .i64 (j + 1 : Nat))], sB, j + 1, st ++ [t.root], A ++ [t.root], _, by omega, rfl, rfl, ⟨hld2, hA2.symm⟩, (hw.b [blk b38 _ _, blk b9 _ _, mapI mm _, row 3 1 v39 _ _]).tail.tail⟩
  have h0 : ¬ A.count t.root = 0 := by omega
  rw [if_neg h0] at hld2
  refine z5 ?_
  exact ⟨ts.length - (j + 1), by omega, [(0, _), (6, _), (7, _), (16, _), (17, _), (18, .int .i64 (j + 1 : Nat))], sB, j + 1, st, A ++ [t.root], _, by omega, rfl, rfl, ⟨hld2, hA2.symm⟩, (hw.b [blk b9 _ _, mapI mm _, row 3 1 tv _ _]).tail⟩
 have hje : j = ts.length := by omega
 rw [hje, List.take_length] at hA
 refine z3 ?_
 refine x_loop (fun m e w => ∃ (W st A : List Int) (tv : Value), m = 65536 - W.length ∧ e = [(0, .pointer (some ⟨vq, 0, none⟩)), (6, .map (some mm)), (7, tv)] ∧ (Ldj V.rd (rootsOf ts) W st A ∧ A = rootsOf ts ++ W.flatMap (kidsOf V.rd)) ∧ Sat G (mapI mm (mtK A) :: row 3 1 tv st.length (ints st) :: vaA vq V :: L) w)
  (m := 65536) (e₀ := [(0, .pointer (some ⟨vq, 0, none⟩)), (6, .map (some mm)), (7, tv)]) sB
  ⟨[], st, A, _, rfl, rfl, ⟨hld, by rw [hA]; simp⟩, hw⟩ ?_
 rintro m e w ⟨W, st, A, tv, rfl, rfl, ⟨hld, hA⟩, hw⟩
 obtain ⟨ta, tc, rfl⟩ := row_form (hw.pick (A := row 3 1 tv _ _) pK)
 refine z7 ?_
 refine x_if rfl (fun h4 => ?_) (fun h4 => ?_)
 ·
  obtain ⟨st0, n, rfl⟩ : ∃ st0 x, st = st0 ++ [x] := ⟨st.dropLast, st.getLast (by intro h; subst h; simp at h4), (List.dropLast_concat_getLast _).symm⟩
  have hnU : n ∈ U := hld.sub hU1 hU3 n ((hld.mem n).2 (.inr (by simp)))
  obtain ⟨p, hrd⟩ : ∃ p, V.rd n = some p := Option.ne_none_iff_exists'.1 (hU2 n hnU)
  have hlv := hld.visit
  have hWl : (W ++ [n]).length + st0.length ≤ 65536 := by
   have := Va.met_le hok (met := (W ++ [n]) ++ st0) hlv.nd (fun n hn => hU2 n (hlv.sub hU1 hU3 n ((hlv.mem n).2 (List.mem_append.1 hn))))
   rw [List.length_append] at this
   exact this
  have hkk : kidsOf V.rd n = kidsP p := by unfold kidsOf; rw [hrd]
  have hrl := rootsOf_len ts
  have hWk := kidsOf_sum (Va.rdok hok) W
  have hAl : A.length ≤ 1000 + 8 * W.length := by rw [hA, List.length_append]; omega
  rw [List.length_append, List.length_singleton] at hWl
  have hlen : (st0 ++ [n]).length = st0.length + 1 := by simp
  rw [hlen] at hw
  rw [hlen]
  have hti : (ints (st0 ++ [n]))[st0.length]? = some (.int .i64 n) := by simp [ints]
  have hw := hw.b [row 3 1 (.slice ta _ tc) _ _]
  obtain ⟨-, tb, -, hta, htc, -⟩ := row_some hw (by omega)
  have htk : ∀ R, Knows (row 3 1 (.slice (some ⟨tb, 0, none⟩) (st0.length + 1) tc) (st0.length + 1) (ints (st0 ++ [n])) :: R) (SlV (.slice (some ⟨tb, 0, none⟩) (st0.length + 1) tc) (ints (st0 ++ [n]))) := fun R => by
   have h := rowI (v := .slice (some ⟨tb, 0, none⟩) (st0.length + 1) tc) (c := st0 ++ [n]) (R := R)
   rw [hlen] at h
   exact h
  rw [hta] at hw
  rw [hta]
  have hw := hw.b [row 3 1 (.slice (some ⟨tb, 0, none⟩) _ tc) _ _, mapI mm _]
  have e32 : (((st0.length + 1 : Nat) : Int) - 1).toNat = st0.length := by omega
  refine z14 ?_
  refine x_idx1 rfl rfl trivial U_sl_int sz_int rfl rfl ⟨by omega, by omega⟩ ?_
  refine x_ld rfl rfl trivial rfl (Loads.one (v := .int .i64 n) one_int ((((htk _).of sF).at hw).at (by rw [e32]; exact hti))) ?_
  refine x_call rfl rfl trivial cal_vault_Vault_Read rfl (ct_vaA_Read (n := n) (hw.b [vaA vq V]) hok) rfl (fun w v53 hv => ?_)
  obtain ⟨p', er, A', rfl, hone, hcs, hw⟩ := hv
  obtain ⟨hrd', rfl, rfl, hps⟩ := hcs.resolve_left (fun h => by rw [h.1] at hrd; cases hrd)
  refine z3 ?_
  refine x_alloc rfl rfl trivial z_api_Page hw rfl (fun w b11 hw => ?_)
  refine x_stN (cs := p'.cells) (l' := p'.cells) rfl trivial rfl rfl many_api_Page rfl hone hw pK (by simp [PgV.cells]) rfl (by kernel_rfl) (fun w hw => ?_)
  rw [hrd] at hrd'
  obtain rfl : p = p'.pg := Option.some.inj hrd'
  refine z8 ?_
  refine x_if rfl (fun h5 => ?_) (fun h5 => ?_)
  ·
   exact absurd rfl h5
  refine z5 ?_
  refine x_cutH rfl rfl trivial U_sl_int szs_int rfl (by simp) rfl ⟨by omega, by omega⟩ ?_
  rw [e32]
  have hw := hw.b [row 3 1 (.slice (some ⟨tb, 0, none⟩) _ tc) _ _]
  have hw := row_cut hw (j := st0.length) (by omega)
  have hta2 : (ints (st0 ++ [n])).take st0.length = ints st0 := by simp [ints]
  rw [hta2] at hw
  refine z4 ?_
  refine lA (l := p'.cells) many_api_Page hw ?_
  refine x_call rfl rfl trivial cal_page_Kids rfl (ct_page_Kids (p := p') hw (pgParts_ok hps pK)) rfl (fun w v63 hv => ?_)
  have hw : Sat G (row 3 1 v63 (kidsP p'.pg).length (ints (kidsP p'.pg)) :: _) _ := hv
  have hk8 := kidsP_le (Va.rdok hok n _ hrd)
  obtain ⟨ka, kc, rfl⟩ := row_form hw
  refine z4 ?_
  have hz := hw.b [row 3 1 (.slice ka _ kc) _ _, mapI mm _, row 3 1 (.slice (some ⟨tb, 0, none⟩) _ tc) _ _, blk b11 _ _, pgO p', vaA vq V]
  clear hw
  have hw := hz
  clear hz
  refine x_loop (fun m e w => ∃ (j : Nat) (st' A' : List Int) (tv : Value), j ≤ (kidsP p'.pg).length ∧ m = (kidsP p'.pg).length - j ∧ e = [(0, .pointer (some ⟨vq, 0, none⟩)), (6, .map (some mm)), (7, tv), (63, .slice ka (kidsP p'.pg).length kc), (64, .int .i64 (kidsP p'.pg).length), (65, .int .i64 j)] ∧ (Ldj V.rd (rootsOf ts) (W ++ [n]) st' A' ∧ A' = A ++ (kidsP p'.pg).take j) ∧ Sat G (row 3 1 (.slice ka (kidsP p'.pg).length kc) (kidsP p'.pg).length (ints (kidsP p'.pg)) :: mapI mm (mtK A') :: row 3 1 tv st'.length (ints st') :: blk b11 p'.cells 75 :: pgO p' :: vaA vq V :: L) w)
   (m := (kidsP p'.pg).length) (e₀ := [(0, .pointer (some ⟨vq, 0, none⟩)), (6, .map (some mm)), (7, .slice (some ⟨tb, 0, none⟩) st0.length tc), (63, .slice ka (kidsP p'.pg).length kc), (64, .int .i64 (kidsP p'.pg).length), (65, .int .i64 (0 : Nat))]) sB
   ⟨0, st0, A, _, Nat.zero_le _, rfl, rfl, ⟨hlv, by simp⟩, hw⟩ ?_
  rintro m e w ⟨j, st', A', tv, hj, rfl, rfl, ⟨hlj, hA'⟩, hw⟩
  refine z5 ?_
  refine x_if rfl (fun h6 => ?_) (fun h6 => ?_)
  ·
   have hjl : j < (kidsP p'.pg).length := by omega
   obtain ⟨k, hk⟩ : ∃ k, (kidsP p'.pg)[j]? = some k := ⟨_, List.getElem?_eq_getElem hjl⟩
   have hki : (ints (kidsP p'.pg))[j]? = some (.int .i64 k) := by simp [ints, hk]
   have hA2 : A ++ (kidsP p'.pg).take (j + 1) = A' ++ [k] := by rw [take_step hk, hA', List.append_assoc]
   have hA3 : A'.length ≤ 1000 + 8 * W.length + 8 := by rw [hA', List.length_append, List.length_take]; omega
   have hcl := List.count_le_length (a := k) (l := A')
   have hsl : (W ++ [n]).length + st'.length ≤ 65536 := by
    have := Va.met_le hok (met := (W ++ [n]) ++ st') hlj.nd (fun n hn => hU2 n (hlj.sub hU1 hU3 n ((hlj.mem n).2 (List.mem_append.1 hn))))
    rw [List.length_append] at this
    exact this
   have hlj2 := hlj.arrow (k := k) (fun U h1 h2 => h2 n (hlj.min U h1 h2 n ((hlj.mem n).2 (.inl (by simp)))) k (by rw [hkk]; exact List.mem_of_getElem? hk))
   obtain ⟨kb, ko, hka⟩ := (((rowI (v := .slice ka (kidsP p'.pg).length kc) (c := kidsP p'.pg)).of sF).at hw).nn (by rw [ints_length]; omega)
   cases hka
   refine z5 ?_
   refine x_idx1 rfl rfl trivial U_sl_int sz_int rfl rfl ⟨by omega, by omega⟩ ?_
   refine x_ld rfl rfl trivial rfl (Loads.one (v := .int .i64 k) one_int ((((rowI (v := .slice (some ⟨kb, ko, none⟩) (kidsP p'.pg).length kc) (c := kidsP p'.pg)).of sF).at hw).at (by rw [Int.toNat_natCast]; exact hki))) ?_
   refine z6 ?_
   refine x_lk1 (v0 := .int .i64 ((A'.count k : Nat) : Int)) rfl rfl trivial U_m_int_int U_int zv_int rfl rfl hw pK (klook_mt_getD _ _) ?_
   refine z1 ?_
   refine x_mu rfl trivial U_m_int_int U_int rfl rfl rfl hw pK rfl (fun w hw => ?_)
   rw [mt_put] at hw
   refine z5 ?_
   refine x_lk1 (v0 := .int .i64 ((A'.count k : Nat) + 1 : Int)) rfl rfl trivial U_m_int_int U_int zv_int rfl rfl hw pK (by rw [klook_mt_getD, count_snoc_self]; rfl) ?_
   refine z2 ?_
   refine x_if rfl (fun h7 => ?_) (fun h7 => ?_)
   ·
    have h0 : A'.count k = 0 := by omega
    rw [if_pos h0] at hlj2
    refine z3 ?_
    refine x_bs1 (cs := [.int .i64 k]) rfl rfl trivial U_sl_int sz_int zs_int (by decide) rfl rfl rfl hw rfl (fun w b79 hw => ?_)
    refine x_app (m := st'.length) (k := 1) (news := [.int .i64 k]) rfl rfl trivial U_sl_int sz_int by_int zs_int rfl rfl hw pK (Rd.blk0 hw pK) rfl (by intro u hu; simp at hu; subst hu; rfl) (by simp only [maxLen]; omega) (by omega) rfl (fun w v80 hw => ?_)
    refine z6 ?_
    have e1 : ints st' ++ [.int .i64 k] = ints (st' ++ [k]) := by simp [ints]
    have e2 : st'.length + 1 = (st' ++ [k]).length := by simp
    rw [e1, e2] at hw
    exact ⟨(kidsP p'.pg).length - (j + 1), by omega, [(0, _), (6, _), (7, v80), (63, _), (64, _), (65, .int .i64 (j + 1 : Nat))], sB, j + 1, st' ++ [k], A' ++ [k], _, by omega, rfl, rfl, ⟨hlj2, hA2.symm⟩, (hw.b [blk b79 _ _, row 3 1 (.slice (some ⟨kb, ko, none⟩) _ kc) _ _, mapI mm _, row 3 1 v80 _ _]).tail⟩
   have h0 : ¬ A'.count k = 0 := by omega
   rw [if_neg h0] at hlj2
   refine z5 ?_
   exact ⟨(kidsP p'.pg).length - (j + 1), by omega, [(0, _), (6, _), (7, _), (63, _), (64, _), (65, .int .i64 (j + 1 : Nat))], sB, j + 1, st', A' ++ [k], _, by omega, rfl, rfl, ⟨hlj2, hA2.symm⟩, hw.b [row 3 1 (.slice (some ⟨kb, ko, none⟩) _ kc) _ _]⟩
  refine z1 ?_
  have hje : j = (kidsP p'.pg).length := by omega
  rw [hje, List.take_length] at hA'
  refine ⟨65536 - (W ++ [n]).length, by rw [List.length_append, List.length_singleton]; omega, [(0, _), (6, _), (7, _)], sB, W ++ [n], st', A', _, rfl, rfl, ⟨hlj, ?_⟩, (hw.b [row 3 1 (.slice ka _ kc) _ _, blk b11 _ _, pgO p']).tail.tail.tail⟩
  rw [hA', hA, List.flatMap_append, List.append_assoc]
  simp [hkk]
 refine z8 ?_
 exact end2 rfl rfl rfl rfl (by
 have hz : st = [] := List.eq_nil_of_length_eq_zero (by omega)
 subst hz
 exact ⟨mm, W, A, rfl, hld.led hA, (hw.b [row 3 1 (.slice ta _ tc) _ _]).tail⟩)
end
def cvt (N : Nat) (A vis : List Int) : List Int := (List.range N).map fun i : Nat => if (i : Int) + 1 ∈ vis then ((A.count ((i : Int) + 1) : Nat) : Int) else 0
theorem cvt_len (N : Nat) (A vis : List Int) : (cvt N A vis).length = N := by simp [cvt]
theorem cvt_nil (N : Nat) (A : List Int) : cvt N A [] = List.replicate N 0 := by
 unfold cvt
 refine List.ext_getElem? fun i => ?_
 rw [List.getElem?_map, List.getElem?_replicate]
 by_cases h : i < N
 ·rw [List.getElem?_range h, if_pos h]; simp
 rw [List.getElem?_eq_none (by simpa using Nat.le_of_not_lt h), if_neg h]; rfl
theorem cvt_set {N : Nat} {A vis : List Int} {k : Int} (h : 1 ≤ k ∧ k ≤ N) : (cvt N A vis).set (k - 1).toNat ((A.count k : Nat) : Int) = cvt N A (k :: vis) := by
 obtain ⟨j, rfl⟩ : ∃ j : Nat, k = (j : Int) + 1 := ⟨(k - 1).toNat, by omega⟩
 have e : (((j : Int) + 1) - 1).toNat = j := by omega
 rw [e]
 refine List.ext_getElem? fun i => ?_
 rw [List.getElem?_set, cvt_len]
 unfold cvt
 rw [List.getElem?_map, List.getElem?_map]
 by_cases h1 : i < N
 ·rw [List.getElem?_range h1]
  by_cases h2 : j = i
  ·subst h2; rw [if_pos rfl, if_pos h1]; simp
  rw [if_neg h2]
  simp only [Option.map_some, List.mem_cons]
  congr 1
  have : ((i : Int) + 1 = (j : Int) + 1 ∨ (i : Int) + 1 ∈ vis) ↔ (i : Int) + 1 ∈ vis := ⟨fun h => h.elim (fun h => by omega) id, .inr⟩
  simp only [this]
 have : (List.range N)[i]? = none := List.getElem?_eq_none (by simpa using Nat.le_of_not_lt h1)
 rw [this]
 by_cases h2 : j = i
 ·rw [if_pos h2, if_neg (by omega)]; rfl
 rw [if_neg h2]; rfl
def cvR (N : Nat) (A : List Int) : List Int := (List.range N).map fun i : Nat => ((A.count ((i : Int) + 1) : Nat) : Int)
theorem cvR_len (N : Nat) (A : List Int) : (cvR N A).length = N := by simp [cvR]
theorem cvt_all {N : Nat} {A vis : List Int} (h : ∀ k ∈ A, k ∈ vis) : cvt N A vis = cvR N A := by
 unfold cvt cvR
 refine List.map_congr_left fun i hi => ?_
 split
 ·rfl
 rename_i hn
 rw [List.count_eq_zero_of_not_mem fun hm => hn (h _ hm)]; rfl
theorem rep_ints (n : Nat) : rep n (.int .i64 0) = ints (List.replicate n 0) := by simp [rep, ints, List.map_replicate]
theorem iter_map {G : Gh} {R : List Assn} {w : World} {it m : Nat} {kv : KV} {vis : List Int} (hw : Sat G (iter it m kv vis :: R) w) : Sat G (mapI m kv :: R) w := by
 obtain ⟨es, ck, sq, vs, hf, _, _, _, hw⟩ := iter_open hw
 exact mapI_shut hf hw.tail
section
variable {G : Gh} {L R : List Assn} {w : World}
theorem ct_fork_Counts {vq : Nat} {V : Va} {lv : Value} {ts : List Tr} {U : List Int} (hw : Sat G (vaA vq V :: L) w) (hok : V.Ok) (kl : Knows L (SlT 3 lv (ts.map treeC))) (hll : ts.length ≤ 1000) (hr0 : ∀ t ∈ ts, 0 ≤ t.root) (hU1 : ∀ r ∈ rootsOf ts, r ∈ U) (hU2 : ∀ n ∈ U, V.rd n ≠ none) (hU3 : ∀ n ∈ U, ∀ k ∈ kidsOf V.rd n, k ∈ U) :
  Calls Tryz.prog 26 #[.pointer (some ⟨vq, 0, none⟩), lv] w (Ret fun u w' => ∃ v W A, u = .tuple #[v, .int .i64 0] ∧ Led V.rd (rootsOf ts) W A ∧ Sat G (row 3 1 v V.po.c.length (ints (cvR V.po.c.length A)) :: vaA vq V :: L) w') := by
 obtain ⟨la, lc, hlv, -, -⟩ := (kl.at hw.tail).form
 have hN := hok.po.len
 refine calls_of_x (args := [_, _]) Tryz.func26 rfl Tryz.ntmps26 rfl rfl ?_
 refine z9 ?_
 refine x_call rfl rfl trivial cal_fork_led rfl (ct_fork_led hw hok kl hll hr0 hU1 hU2 hU3) rfl (fun w v14 hv => ?_)
 obtain ⟨mm, W, A, rfl, hled, hw⟩ := hv
 obtain ⟨m, hf, hw⟩ := vaA_open (hw.b [vaA vq V])
 refine z12 ?_
 refine x_if rfl (fun h1 => ?_) (fun h1 => ?_)
 ·
  exact absurd rfl h1
 refine z6 ?_
 refine lD (v := .pointer (some ⟨m.q, 0, none⟩)) one_p_pool_Pool hw ?_
 refine x_call rfl rfl trivial cal_pool_Pool_Len rfl (ct_poA_Len (hw.b [poA m.q V.po])) rfl (fun w v24 hv => ?_)
 obtain ⟨rfl, hw⟩ := hv
 have hw := vaA_shut hf (hw.b [blk vq _ _, mapI m.om _, stO m.S, row 170 2 m.av _ _, both (m.acs.map wasO), poA m.q V.po])
 refine x_mks rfl rfl trivial U_sl_int sz_int by_int z_int rfl rfl ⟨by omega, by omega⟩ (by omega) (by omega) hw rfl (fun w b25 hw => ?_)
 simp only [Int.toNat_natCast] at hw
 simp only [Int.toNat_natCast]
 rw [rep_ints] at hw
 refine z6 ?_
 refine x_rng rfl rfl trivial U_m_int_int rfl hw pK rfl (fun w it hw => ?_)
 have hw := row_full (z := 1) (m := V.po.c.length) (hw.b [blk b25 _ _]) (by rw [ints_length]; simp) (by simp only [maxLen]; omega)
 rw [← cvt_nil V.po.c.length A] at hw
 refine z2 ?_
 refine x_loop (fun m e w => ∃ (vis : List Int), m = (firstsL A).length - vis.length ∧ e = [(8, .slice (some ⟨b25, 0, none⟩) V.po.c.length V.po.c.length), (27, .pointer (some ⟨it, 0, none⟩))] ∧ (vis.Nodup ∧ ∀ k ∈ vis, k ∈ A) ∧ Sat G (row 3 1 (.slice (some ⟨b25, 0, none⟩) V.po.c.length V.po.c.length) V.po.c.length (ints (cvt V.po.c.length A vis)) :: iter it mm (mtK A) vis :: vaA vq V :: L) w)
  (m := (firstsL A).length) (e₀ := [(8, .slice (some ⟨b25, 0, none⟩) V.po.c.length V.po.c.length), (27, .pointer (some ⟨it, 0, none⟩))]) sB
  ⟨[], rfl, rfl, ⟨List.nodup_nil, by simp⟩, hw⟩ ?_
 rintro m e w ⟨vis, rfl, rfl, ⟨hvn, hvA⟩, hw⟩
 refine z2 ?_
 refine x_nx rfl rfl trivial rfl hw pK rfl (fun w hall hw => ?_) (fun w k v hk hnew hw => ?_)
 ·
  refine z3 ?_
  refine x_cond_false rfl ?_
  refine z8 ?_
  exact end2 rfl rfl rfl rfl (by
 have hvis : ∀ k ∈ A, k ∈ vis := fun k hk => hall k _ (by rw [klook_mt, if_pos hk])
 rw [cvt_all hvis] at hw
 exact ⟨_, W, A, rfl, hled, (iter_map (hw.b [iter it mm _ _])).tail⟩)
 rw [klook_mt] at hk
 have hkA : k ∈ A := Classical.byContradiction fun h => by rw [if_neg h] at hk; cases hk
 rw [if_pos hkA] at hk
 obtain rfl := Option.some.inj hk
 have hk : klook (mtK A) k = some (.int .i64 ((A.count k : Nat) : Int)) := by rw [klook_mt, if_pos hkA]
 have hin : 1 ≤ k ∧ k ≤ (V.po.c.length : Int) := Va.rd_in (hU2 k (hled.min (· ∈ U) hU1 hU3 k (hled.sub k hkA)))
 have hvl := nodup_le (List.nodup_cons.2 ⟨hnew, hvn⟩) (m := firstsL A) (fun x hx => mem_firstsL.2 ((List.mem_cons.1 hx).elim (fun h => h ▸ hkA) (hvA x)))
 rw [List.length_cons] at hvl
 refine z3 ?_
 refine x_cond_true rfl ?_
 refine z4 ?_
 refine x_ent rfl rfl trivial rfl hw pK hk ?_
 refine z10 ?_
 refine x_idx1 rfl rfl trivial U_sl_int sz_int rfl rfl ⟨by omega, by omega⟩ ?_
 refine x_st1R (j := (k - 1).toNat) (xs' := ints (cvt V.po.c.length A (k :: vis))) rfl trivial rfl rfl one_int rfl hw pK (by omega) (by simp) (by rw [← cvt_set hin]; simp [ints, List.map_set]) rfl (fun w hw => ?_)
 refine xl_nil ?_
 exact ⟨(firstsL A).length - (vis.length + 1), by omega, [(8, _), (27, _)], sB, k :: vis, rfl, rfl, ⟨List.nodup_cons.2 ⟨hnew, hvn⟩, fun x hx => (List.mem_cons.1 hx).elim (fun h => h ▸ hkA) (hvA x)⟩, hw⟩
end
def mkE (Ds : List Nat) : Env := Ds.map fun D => (1000000000, .pointer (some ⟨D, 0, none⟩))
theorem marks_mkE (Ds : List Nat) : marks (mkE Ds) = Ds.map fun D => (.pointer (some ⟨D, 0, none⟩) : Value) := by
 induction Ds with
 | nil => rfl
 | cons D Ds ih => simp only [mkE, List.map_cons, marks, Nat.beq_refl, cond] at ih ⊢; rw [ih]
theorem subG_mkE (Ds : List Nat) (e : Env) : SubG (mkE Ds) e := by
 induction Ds with
 | nil => exact SubG.nil e
 | cons D Ds ih => exact SubG.mark ih
theorem leave_all {P : Program} {n : Nat} {fn : Func} {Q : Value → World → Prop} {e : Env} {G : Gh} : ∀ {Ds : List Nat} {L R : List Assn} {w : World}, Sat G L w → Pick (both (Ds.map fun D => dblk D)) L R → (∀ w', Sat G R w' → Leave P n fn Q e [] w') → Leave P n fn Q e (Ds.map fun D => (.pointer (some ⟨D, 0, none⟩) : Value)) w
 | [], L, R, w, hw, hp, h => h w (hw.drop hp)
 | D :: Ds, L, R, w, hw, hp, h => by
  have h1 := (hw.pick hp).both_uncons
  exact leave_dblk h1 .here fun w' h2 => leave_all h2 .here h
theorem flatT_keys {rd : Int → Option Pg} (hr : RdOk rd) : ∀ {k : Nat} {n : Int}, ∀ x ∈ flatT rd k n, x.1.length ≤ 24
 | 0, n, x, hx => by
  rw [flatT] at hx
  cases h : rd n with
  | none => rw [h] at hx; cases hx
  | some p =>
   rw [h] at hx
   obtain ⟨y, hy, rfl⟩ := List.mem_map.1 hx
   exact items_keys (hr n p h) y hy
 | k + 1, n, x, hx => by
  rw [flatT] at hx
  cases h : rd n with
  | none => rw [h] at hx; cases hx
  | some p =>
   rw [h] at hx
   obtain ⟨y, hy, h2⟩ := List.mem_flatMap.1 hx
   exact flatT_keys hr x h2
theorem flatR_small {rd : Int → Option Pg} (hr : RdOk rd) {t : Tr} : ∀ x ∈ flatR rd t, x.1.length ≤ 24 ∧ x.2.length ≤ 3840 := fun x hx => by
 unfold flatR at hx
 split at hx
 ·cases hx
 exact ⟨flatT_keys hr x hx, flatT_vals x hx⟩
theorem va_stands {V : Va} (hok : V.Ok) {t : Tr} (h : chkT V.rd t = 0) : (0 ≤ t.items ∧ t.items ≤ 524288) ∧ ((flatR V.rd t).length : Int) = t.items ∧ 0 ≤ t.root := by
 rcases chk_stands (Va.rdok hok) h with h1 | ⟨M, h1⟩
 ·have h2 := h1
  unfold treeNone at h2
  have e : flatR V.rd t = [] := by unfold flatR; rw [if_pos h2.1]
  exact ⟨by omega, by rw [e]; simp; omega, by omega⟩
 have h2 := Va.met_le hok h1.nd h1.th
 have h3 := h1.many
 have h4 := h1.form
 unfold treeForm at h4
 have h5 := h1.items
 have h7 := Va.rd_in (h1.th _ h1.root)
 have e : flatR V.rd t = flatT V.rd (t.height - 1).toNat t.root := by unfold flatR; rw [if_neg h4.1]
 exact ⟨by omega, by rw [e]; exact h5, by omega⟩
theorem reach_set {rd : Int → Option Pg} (hr : RdOk rd) : ∀ {ts : List Tr}, (∀ t ∈ ts, chkT rd t = 0) → ∃ U : List Int, (∀ r ∈ rootsOf ts, r ∈ U) ∧ (∀ n ∈ U, rd n ≠ none) ∧ ∀ n ∈ U, ∀ k ∈ kidsOf rd n, k ∈ U
 | [], _ => ⟨[], by simp [rootsOf], by simp, by simp⟩
 | t :: ts, h => by
  obtain ⟨U, h1, h2, h3⟩ := reach_set hr fun t ht => h t (List.mem_cons_of_mem _ ht)
  have hro : rootsOf (t :: ts) = (if 0 < t.root then [t.root] else []) ++ rootsOf ts := by
   unfold rootsOf
   rw [List.map_cons, List.filter_cons]
   by_cases h0 : 0 < t.root
   ·rw [if_pos (decide_eq_true h0), if_pos h0]; rfl
   rw [if_neg (by simpa using h0), if_neg h0]; rfl
  rcases chk_stands hr (h t (List.mem_cons_self ..)) with hn | ⟨M, hM⟩
  ·unfold treeNone at hn
   refine ⟨U, ?_, h2, h3⟩
   rw [hro, if_neg (by omega)]; exact h1
  refine ⟨M ++ U, fun r hr => ?_, fun n hn => ?_, fun n hn k hk => ?_⟩
  ·rw [hro] at hr
   rcases List.mem_append.1 hr with hr | hr
   ·split at hr
    ·simp at hr; subst hr; exact List.mem_append_left _ hM.root
    cases hr
   exact List.mem_append_right _ (h1 r hr)
  ·rcases List.mem_append.1 hn with hn | hn
   ·exact hM.th n hn
   exact h2 n hn
  rcases List.mem_append.1 hn with hn | hn
  ·exact List.mem_append_left _ (hM.kids n hn k hk)
  exact List.mem_append_right _ (h3 n hn k hk)
theorem cvR_get {N : Nat} {A : List Int} {i : Nat} (h : i < N) : (cvR N A)[i]? = some ((A.count ((i : Int) + 1) : Nat) : Int) := by
 unfold cvR
 rw [List.getElem?_map, List.getElem?_range h]; rfl
theorem cfits_iff {c A : List Int} : cvR c.length A = c ↔ CFits c A := by
 constructor
 ·intro h i x hx
  have hi := (List.getElem?_eq_some_iff.1 hx).1
  have h1 := cvR_get (A := A) hi
  rw [h, hx] at h1
  exact (Option.some.inj h1).symm
 intro h
 refine List.ext_getElem? fun i => ?_
 by_cases hi : i < c.length
 ·obtain ⟨x, hx⟩ : ∃ x, c[i]? = some x := ⟨_, List.getElem?_eq_getElem hi⟩
  rw [cvR_get hi, hx, h i x hx]
 rw [List.getElem?_eq_none (by rw [cvR_len]; omega), List.getElem?_eq_none (by omega)]
def wsK (A : List Int) (k : Nat) : List Int := ((List.range k).map fun i : Nat => (i : Int) + 1).filter fun n => decide (n ∈ A)
theorem wsK_step (A : List Int) (k : Nat) : wsK A (k + 1) = wsK A k ++ if (k : Int) + 1 ∈ A then [(k : Int) + 1] else [] := by
 unfold wsK
 rw [List.range_succ, List.map_append, List.filter_append]
 congr 1
 by_cases h : (k : Int) + 1 ∈ A <;> simp [h]
theorem wsK_len (A : List Int) (k : Nat) : (wsK A k).length ≤ k := by
 have := List.length_filter_le (fun n => decide (n ∈ A)) ((List.range k).map fun i : Nat => (i : Int) + 1)
 rw [List.length_map, List.length_range] at this
 exact this
theorem wsK_mem {A : List Int} {k : Nat} {n : Int} : n ∈ wsK A k ↔ n ∈ A ∧ 1 ≤ n ∧ n ≤ k := by
 unfold wsK
 rw [List.mem_filter, List.mem_map]
 constructor
 ·rintro ⟨⟨i, hi, rfl⟩, h⟩
  rw [List.mem_range] at hi
  exact ⟨by simpa using h, by omega, by omega⟩
 rintro ⟨h1, h2, h3⟩
 exact ⟨⟨(n - 1).toNat, by rw [List.mem_range]; omega, by omega⟩, by simpa using h1⟩
theorem wsK_nodup (A : List Int) (k : Nat) : (wsK A k).Nodup := by
 unfold wsK
 refine List.Nodup.sublist List.filter_sublist ?_
 induction k with
 | zero => simp
 | succ k ih =>
  rw [List.range_succ, List.map_append, List.nodup_append]
  refine ⟨ih, by simp, fun a ha b hb => ?_⟩
  obtain ⟨i, hi, rfl⟩ := List.mem_map.1 ha
  rw [List.mem_range] at hi
  simp at hb
  omega
theorem rp_perm {rd : Int → Option Pg} {ts us : List Tr} {W W' : List Int} (h : W.Perm W') : rpOf rd ts us W = rpOf rd ts us W' := by
 have e1 : ∀ k, cntK rd k W = cntK rd k W' := fun k => by unfold cntK; rw [(h.filter _).length_eq]
 have e2 : cntB rd W = cntB rd W' := by unfold cntB; rw [(h.filter _).length_eq]
 unfold rpOf
 rw [h.length_eq, e1, e1, e2]
theorem Led.perm {rd : Int → Option Pg} {roots W A W' A' : List Int} (h : Led rd roots W A) (h' : Led rd roots W' A') : W.Perm W' ∧ A.Perm A' := by
 have key : ∀ {W A W' A' : List Int}, Led rd roots W A → Led rd roots W' A' → ∀ n ∈ W, n ∈ W' := fun {W A W' A'} h h' => by
  refine h.min (· ∈ W') (fun r hr => h'.sub r (by rw [h'.arr]; exact List.mem_append_left _ hr)) fun n hn k hk => h'.sub k ?_
  rw [h'.arr]
  exact List.mem_append_right _ (List.mem_flatMap.2 ⟨n, hn, hk⟩)
 have hp : W.Perm W' := (List.perm_ext_iff_of_nodup h.nd h'.nd).2 fun a => ⟨key h h' a, key h' h a⟩
 refine ⟨hp, ?_⟩
 rw [h.arr, h'.arr]
 exact List.Perm.append_left _ (hp.flatMap_right _)
theorem WholeR.one {rd : Int → Option Pg} {c : List Int} {ts : List Tr} {rp rp' : Rp} {er er' : Int} (h : WholeR rd c ts rp er) (h' : WholeR rd c ts rp' er') : rp = rp' ∧ er = er' := by
 rcases h with ⟨⟨t, ht, hc⟩, rfl, rfl⟩ | ⟨hc, W, A, hl, h⟩ <;> rcases h' with ⟨⟨t', ht', hc'⟩, rfl, rfl⟩ | ⟨hc', W', A', hl', h'⟩
 ·exact ⟨rfl, rfl⟩
 ·exact absurd (hc' t ht) hc
 ·exact absurd (hc t' ht') hc'
 obtain ⟨p1, p2⟩ := hl.perm hl'
 have hcf : CFits c A ↔ CFits c A' := by
  unfold CFits
  constructor
  ·intro h i x hx; rw [← h i x hx, p2.count_eq]
  intro h i x hx; rw [← h i x hx, p2.count_eq]
 rcases h with ⟨hf, rfl, rfl⟩ | ⟨hf, rfl, rfl⟩ <;> rcases h' with ⟨hf', rfl, rfl⟩ | ⟨hf', rfl, rfl⟩
 ·exact ⟨rp_perm p1, rfl⟩
 ·exact absurd (hcf.1 hf) hf'
 ·exact absurd (hcf.2 hf') hf
 exact ⟨rfl, rfl⟩
section
variable {G : Gh} {L R : List Assn} {w : World}
theorem ct_fsck_Whole {vq : Nat} {V : Va} {lv : Value} {l : List (Int × Tr)} (hw : Sat G (vaA vq V :: L) w) (hok : V.Ok) (kl : Knows L (SlT 4 lv (l.map rootC))) (hll : l.length ≤ 1000) (kev : Knows L EvK) :
  Calls Tryz.prog 9 #[.pointer (some ⟨vq, 0, none⟩), lv] w (Ret fun r w' => ∃ rp er, r = .tuple #[.agg (RpV.cells ⟨rp, .slice none 0 0⟩).toArray, .int .i64 er] ∧ (WholeR V.rd V.po.c (l.map (·.2)) rp er ∧ rp.bad = []) ∧ Sat G (vaA vq V :: L) w') := by
 obtain ⟨ra, rc, hrv, -, -⟩ := (kl.at hw.tail).form
 rw [List.length_map] at hrv
 subst hrv
 have hN := hok.po.len
 refine calls_of_x (args := [_, _]) Tryz.func9 rfl Tryz.ntmps9 rfl rfl ?_
 refine z2 ?_
 refine x_alloc rfl rfl trivial z_api_Report hw rfl (fun w b4 hw => ?_)
 refine z5 ?_
 refine x_len rfl rfl trivial (by kernel_rfl) U_sl_api_Root rfl ?_
 refine x_build (v := .agg #[.int .i64 l.length, .int .i64 0, .int .i64 0, .int .i64 0, .int .i64 0, .int .i64 0, .int .i64 0, .slice none 0 0]) rfl rfl trivial rfl (fun w => by kernel_rfl) ?_
 refine x_alloc rfl rfl trivial z_api_Report hw rfl (fun w b6 hw => ?_)
 refine x_stN (cs := [.int .i64 l.length, .int .i64 0, .int .i64 0, .int .i64 0, .int .i64 0, .int .i64 0, .int .i64 0, .slice none 0 0]) (l' := [.int .i64 l.length, .int .i64 0, .int .i64 0, .int .i64 0, .int .i64 0, .int .i64 0, .int .i64 0, .slice none 0 0]) rfl trivial rfl rfl many_api_Report rfl (by intro u hu; simp at hu; rcases hu with rfl | rfl | rfl | rfl <;> rfl) hw pK (by simp) rfl rfl (fun w hw => ?_)
 refine z9 ?_
 refine x_len rfl rfl trivial (by kernel_rfl) U_sl_api_Root rfl ?_
 refine z3 ?_
 have hw := row_nil (Sat.both_in (M := ([] : List Nat).map fun D => dblk D) hw) 62 3
 have hw := hw.b [row 62 3 (.slice none 0 0) _ _, blk b6 _ _, blk b4 _ _, both _, vaA vq V]
 refine x_loop (fun m e w => ∃ (i : Nat) (Ds : List Nat) (tv : Value), i ≤ l.length ∧ m = l.length - i ∧ e = (0, .pointer (some ⟨vq, 0, none⟩)) :: (4, .pointer (some ⟨b4, 0, none⟩)) :: (6, .pointer (some ⟨b6, 0, none⟩)) :: (7, tv) :: (21, .slice ra l.length rc) :: (22, .int .i64 l.length) :: (23, .int .i64 i) :: mkE Ds ∧ ((∀ t ∈ ((l.map (·.2)).take i), chkT V.rd t = 0) ∧ (0 ≤ sumI (((l.map (·.2)).take i).map Tr.items) ∧ sumI (((l.map (·.2)).take i).map Tr.items) ≤ 524288 * i) ∧ (0 ≤ sumI (((l.map (·.2)).take i).map fun t => lensP (flatR V.rd t)) ∧ sumI (((l.map (·.2)).take i).map fun t => lensP (flatR V.rd t)) ≤ 2013265920 * i)) ∧ Sat G (row 62 3 tv i (((l.map (·.2)).take i).map treeC).flatten :: blk b6 [.int .i64 l.length, .int .i64 0, .int .i64 0, .int .i64 0, .int .i64 0, .int .i64 (sumI (((l.map (·.2)).take i).map Tr.items)), .int .i64 (sumI (((l.map (·.2)).take i).map fun t => lensP (flatR V.rd t))), .slice none 0 0] 40 :: blk b4 (RpV.cells ⟨rpZ, .slice none 0 0⟩) 40 :: both (Ds.map fun D => dblk D) :: vaA vq V :: L) w)
  (m := l.length) (e₀ := [(0, .pointer (some ⟨vq, 0, none⟩)), (4, .pointer (some ⟨b4, 0, none⟩)), (6, .pointer (some ⟨b6, 0, none⟩)), (7, .slice none 0 0), (21, .slice ra l.length rc), (22, .int .i64 l.length), (23, .int .i64 (0 : Nat))]) sB
  ⟨0, [], _, Nat.zero_le _, rfl, rfl, ⟨(fun t ht => by simp at ht), ⟨by simp [sumI], by simp [sumI]⟩, ⟨by simp [sumI], by simp [sumI]⟩⟩, hw⟩ ?_
 rintro m e w ⟨i, Ds, tv, hi, rfl, rfl, ⟨hck, hit, hby⟩, hw⟩
 obtain ⟨ta, tc, rfl⟩ := row_form hw
 refine z5 ?_
 refine x_if rfl (fun h1 => ?_) (fun h1 => ?_)
 ·
  have hi' : i < l.length := by omega
  obtain ⟨x, hx⟩ : ∃ x, l[i]? = some x := ⟨_, List.getElem?_eq_getElem hi'⟩
  have hxr : (l.map rootC)[i]? = some (rootC x) := by rw [List.getElem?_map, hx]; rfl
  have hxt : (l.map (·.2))[i]? = some x.2 := by rw [List.getElem?_map, hx]; rfl
  obtain ⟨rb, ro, rfl⟩ := ((kl.of sF).at hw).nn (by rw [List.length_map]; omega)
  refine z5 ?_
  refine x_idx rfl rfl trivial U_sl_api_Root sz_api_Root rfl rfl ⟨by omega, by omega⟩ ?_
  refine x_ld rfl rfl trivial rfl (Loads.many (cs := rootC x) many_api_Root rfl (by rw [Int.toNat_natCast]; exact ((kl.of sF).at hw).at hxr)) ?_
  refine x_alloc rfl rfl trivial z_api_Root hw rfl (fun w b9 hw => ?_)
  refine x_stN (cs := rootC x) (l' := rootC x) rfl trivial rfl rfl many_api_Root rfl (by intro u hu; simp [rootC] at hu; rcases hu with rfl | rfl | rfl | rfl <;> rfl) hw pK (by simp [rootC]) rfl rfl (fun w hw => ?_)
  refine z6 ?_
  refine x_ld rfl rfl trivial rfl (Loads.blkN (cs := treeC x.2) many_api_Tree hw pK rfl rfl) ?_
  refine x_call rfl rfl trivial cal_walk_Check rfl (ct_walk_Check (t := x.2) hok (hw.b [vaA vq V]) (kev.of sF)) rfl (fun w v30 hv => ?_)
  obtain ⟨rfl, hw⟩ := hv
  refine z2 ?_
  refine x_if rfl (fun h2 => ?_) (fun h2 => ?_)
  ·
   refine z2 ?_
   refine x_build (v := .agg #[.int .i64 0, .int .i64 0, .int .i64 0, .int .i64 0, .int .i64 0, .int .i64 0, .int .i64 0, .slice none 0 0]) rfl rfl trivial rfl (fun w => by kernel_rfl) ?_
   refine x_stN (cs := RpV.cells ⟨rpZ, .slice none 0 0⟩) (l' := RpV.cells ⟨rpZ, .slice none 0 0⟩) rfl trivial rfl rfl many_api_Report rfl (by intro u hu; simp [RpV.cells] at hu; rcases hu with rfl | rfl | rfl | rfl | rfl | rfl | rfl | rfl <;> rfl) hw pK (by simp [RpV.cells]) rfl rfl (fun w hw => ?_)
   refine z3 ?_
   refine bodyEnd_leave (marks_mkE Ds) ?_
   refine leave_all hw pK (fun w hw => ?_)
   refine leave2 rfl ⟨_, rfl, (Loads.blkA (l := RpV.cells ⟨rpZ, .slice none 0 0⟩) many_api_Report hw pK rfl)⟩ rfl ⟨rpZ, 18, rfl, ⟨.inl ⟨⟨x.2, List.mem_of_getElem? hxt, h2⟩, rfl, rfl⟩, rfl⟩, ?_⟩
   exact (hw.b [blk b4 _ _, blk b6 _ _, row 62 3 _ _ _, blk b9 _ _]).tail.tail.tail.tail
  have hc0 : chkT V.rd x.2 = 0 := Decidable.not_not.1 h2
  have hst := chk_stands (Va.rdok hok) hc0
  obtain ⟨hsi, hsf, hsr⟩ := va_stands hok hc0
  have hfl := flatR_lens (rd := V.rd) (t := x.2)
  refine z5 ?_
  refine x_ld rfl rfl trivial rfl (Loads.blkN (cs := treeC x.2) many_api_Tree hw pK rfl rfl) ?_
  refine x_bs1 (cs := treeC x.2) rfl rfl trivial U_sl_api_Tree sz_api_Tree zs_api_Tree (by decide) rfl rfl rfl hw rfl (fun w b36 hw => ?_)
  refine x_app (m := i) (k := 1) (news := treeC x.2) rfl rfl trivial U_sl_api_Tree sz_api_Tree by_api_Tree zs_api_Tree rfl rfl hw pK (Rd.blk0 hw pK) rfl (by intro u hu; simp [treeC] at hu; rcases hu with rfl | rfl | rfl <;> rfl) (by simp only [maxLen]; omega) (by omega) rfl (fun w v37 hw => ?_)
  have hhn : (l.map (·.2)).take (i + 1) = ((l.map (·.2)).take i) ++ [x.2] := take_step hxt
  have hsn1 : sumI (((l.map (·.2)).take (i + 1)).map Tr.items) = sumI (((l.map (·.2)).take i).map Tr.items) + x.2.items := by rw [hhn, List.map_append, List.map_cons, List.map_nil, sumI_snoc]
  have hsn2 : sumI (((l.map (·.2)).take (i + 1)).map fun t => lensP (flatR V.rd t)) = sumI (((l.map (·.2)).take i).map fun t => lensP (flatR V.rd t)) + lensP (flatR V.rd x.2) := by rw [hhn, List.map_append, List.map_cons, List.map_nil, sumI_snoc]
  have hck1 : ∀ t ∈ (l.map (·.2)).take (i + 1), chkT V.rd t = 0 := fun t ht => by
   rw [hhn] at ht
   rcases List.mem_append.1 ht with ht | ht
   ·exact hck t ht
   simp at ht; subst ht; exact hc0
  have hfn : (((l.map (·.2)).take i).map treeC).flatten ++ treeC x.2 = (((l.map (·.2)).take (i + 1)).map treeC).flatten := by rw [hhn]; simp
  rw [hfn] at hw
  obtain ⟨I0, hI0⟩ : ∃ y, y = sumI (((l.map (·.2)).take i).map Tr.items) := ⟨_, rfl⟩
  obtain ⟨Y0, hY0⟩ : ∃ y, y = sumI (((l.map (·.2)).take i).map fun t => lensP (flatR V.rd t)) := ⟨_, rfl⟩
  rw [← hI0, ← hY0] at hw
  rw [← hI0] at hit hsn1
  rw [← hY0] at hby hsn2
  refine z5 ?_
  refine lD (v := .int .i64 I0) one_int hw ?_
  refine z1 ?_
  refine x_fldk rfl rfl trivial fo_api_Tree_2 rfl ?_
  refine lD (v := .int .i64 x.2.items) one_int hw ?_
  refine z2 ?_
  refine x_st1 (l' := [.int .i64 l.length, .int .i64 0, .int .i64 0, .int .i64 0, .int .i64 0, .int .i64 ((I0 + x.2.items)), .int .i64 Y0, .slice none 0 0]) rfl trivial rfl rfl one_int rfl hw pK rfl rfl rfl (fun w hw => ?_)
  refine z5 ?_
  refine x_ld rfl rfl trivial rfl (Loads.blkN (cs := treeC x.2) many_api_Tree hw pK rfl rfl) ?_
  refine x_build (v := .agg rAll.cells.toArray) rfl rfl trivial rfl (fun w => by kernel_rfl) ?_
  refine x_call rfl rfl trivial cal_walk_Scan rfl (ct_walk_Scan (t := x.2) (hw.b [vaA vq V]) hok hst) rfl (fun w v49 hv => ?_)
  obtain ⟨s1, s2, sv, ol, rfl, ⟨holf, holn⟩, hw⟩ := hv
  have holl : (ol.length : Int) = x.2.items := by rw [← hsf, ← holf, List.length_map]
  have hvals : ∀ k, lensP ((flatR V.rd x.2).take k) ≤ 3840 * k ∧ 0 ≤ lensP ((flatR V.rd x.2).take k) := fun k => by
   have h1 := lensP_le (l := (flatR V.rd x.2).take k) (fun y hy => (flatR_small (Va.rdok hok) y (List.mem_of_mem_take hy)).2)
   have h2 := List.length_take_le k (flatR V.rd x.2)
   omega
  have hsm : ∀ y ∈ ol, Small y.pr.1 ∧ Small y.pr.2 := fun y hy => by
   have h1 := flatR_small (Va.rdok hok) (t := x.2) y.pr (by rw [← holf]; exact List.mem_map.2 ⟨y, hy, rfl⟩)
   unfold Small
   omega
  refine z2 ?_
  have e0 : Y0 = Y0 + lensP ((flatR V.rd x.2).take 0) := by rw [List.take_zero, show lensP [] = 0 from rfl, Int.add_zero]
  have hz := hw.b [blk b6 _ _, blk s2 _ _, blk s1 _ _, row 66 2 _ _ _, both (ol.flatMap prParts), blk b36 _ _, blk b9 _ _, row 62 3 _ _ _, blk b4 _ _, both (Ds.map fun D => dblk D), vaA vq V]
  clear hw
  rw [e0] at hz
  have hw := hz
  clear hz
  refine x_range (e₀ := [(6, .pointer (some ⟨b6, 0, none⟩))]) (fun k => blk b6 [.int .i64 l.length, .int .i64 0, .int .i64 0, .int .i64 0, .int .i64 0, .int .i64 ((I0 + x.2.items)), .int .i64 ((Y0 + lensP ((flatR V.rd x.2).take k))), .slice none 0 0] 40) (fun _ => False) [] rfl cal_walk_told_1 rfl sG rfl hw (fun k args M h => by obtain ⟨x, a, c, a', c', _, rfl⟩ := h; rfl) (it_scan holn hsm) ?_ ?_ ?_ ?_
  ·
   clear hw
   intro l D1 o k args M w hk hpre hw
   obtain ⟨y, a, c, a', c', hy, rfl⟩ := hpre
   have hfy : (flatR V.rd x.2)[k]? = some y.pr := by rw [← holf, List.getElem?_map, hy]; rfl
   have hkl := (List.getElem?_eq_some_iff.1 hy).1
   have hv1 := hvals k
   have hv2 := hvals (k + 1)
   have hst1 : lensP ((flatR V.rd x.2).take (k + 1)) = lensP ((flatR V.rd x.2).take k) + y.pr.2.length := by rw [take_step hfy, lensP_snoc]
   refine z3 ?_
   refine ⟨_, hw.pick (A := pt l o) pK, fun o' w hw => ?_⟩
   refine z3 ?_
   refine lD (v := .int .i64 (Y0 + lensP ((flatR V.rd x.2).take k))) one_int hw ?_
   refine z4 ?_
   refine x_st1 (l' := [.int .i64 _, .int .i64 0, .int .i64 0, .int .i64 0, .int .i64 0, .int .i64 ((I0 + x.2.items)), .int .i64 ((Y0 + lensP ((flatR V.rd x.2).take k) + y.pr.2.length)), .slice none 0 0]) rfl trivial rfl rfl one_int rfl hw pK rfl rfl rfl (fun w hw => ?_)
   refine xl_nil ?_
   rw [hst1, ← Int.add_assoc]
   exact hw
  ·
   clear hw
   intro D1 w hw
   have htk : (flatR V.rd x.2).take ol.length = flatR V.rd x.2 := List.take_of_length_le (by rw [← holf, List.length_map]; omega)
   rw [htk, ← hsn1, ← hsn2] at hw
   have hz := (hw.b [blk s2 _ _, blk s1 _ _, row 66 2 _ _ _, both (ol.flatMap prParts), blk b36 _ _, blk b9 _ _, dblk D1, both (Ds.map fun D => dblk D)]).tail.tail.tail.tail.tail.tail
   have hz := Sat.both_app (M := [dblk D1]) (Sat.both_in (M := [dblk D1]) hz)
   have hz := hz.b [row 62 3 _ _ _, blk b6 _ _, blk b4 _ _, both _, vaA vq V]
   clear hw
   have hw := hz
   clear hz
   refine z4 ?_
   exact ⟨l.length - (i + 1), by omega, (0, _) :: (4, _) :: (6, _) :: (7, v37) :: (21, _) :: (22, _) :: (23, .int .i64 (i + 1 : Nat)) :: mkE (D1 :: Ds), (Sub.mk (by repeat (first | exact SubG.nil _ | exact subG_mkE _ _ | refine SubG.mark ?_ | refine SubG.cons rfl ?_)) (by exact rfl)), i + 1, D1 :: Ds, v37, by omega, rfl, rfl, ⟨hck1, by rw [hsn1]; omega, by rw [hsn2]; omega⟩, hw⟩
  ·
   clear hw; intro D w hw; exact (assn_out hw).elim fun _ h => h.1.elim
  intro id A hA; cases hA
 have hie : i = l.length := by omega
 subst hie
 obtain ⟨ts, hts⟩ : ∃ ts, ts = l.map (·.2) := ⟨_, rfl⟩
 have htk : (l.map (·.2)).take l.length = ts := by rw [hts]; exact List.take_of_length_le (by simp)
 have htl : ts.length = l.length := by rw [hts]; simp
 rw [htk] at hw hck hit hby
 rw [← hts]
 obtain ⟨I0, hI0⟩ : ∃ x, x = sumI (ts.map Tr.items) := ⟨_, rfl⟩
 obtain ⟨Y0, hY0⟩ : ∃ x, x = sumI (ts.map fun t => lensP (flatR V.rd t)) := ⟨_, rfl⟩
 rw [← hI0, ← hY0] at hw
 obtain ⟨U, hU1, hU2, hU3⟩ := reach_set (Va.rdok hok) hck
 have hks : ∀ R, Knows (row 62 3 (.slice ta l.length tc) l.length (ts.map treeC).flatten :: R) (SlT 3 (.slice ta l.length tc) (ts.map treeC)) := fun R => (SlT.row (by rw [List.length_map, htl]) (fun r hr => by obtain ⟨x, _, rfl⟩ := List.mem_map.1 hr; rfl)).head R
 refine z5 ?_
 refine x_call rfl rfl trivial cal_fork_Counts rfl (ct_fork_Counts (ts := ts) (hw.b [vaA vq V]) hok ((hks _).of sF) (by omega) (fun t ht => (va_stands hok (hck t ht)).2.2) hU1 hU2 hU3) rfl (fun w v62 hv => ?_)
 obtain ⟨cv, W, A, rfl, hled, hw⟩ := hv
 obtain ⟨ca, cc, rfl⟩ := row_form hw
 have hkc : ∀ R, Knows (row 3 1 (.slice ca V.po.c.length cc) V.po.c.length (ints (cvR V.po.c.length A)) :: R) (SlV (.slice ca V.po.c.length cc) (ints (cvR V.po.c.length A))) := fun R => by
  have h := rowI (v := .slice ca V.po.c.length cc) (c := cvR V.po.c.length A) (R := R)
  rw [cvR_len] at h
  exact h
 refine z12 ?_
 refine xl_split (d := 67) rfl (fun h3 => ?_) (fun h3 => ?_)
 ·
  exact absurd rfl h3
 obtain ⟨m, hf, hw⟩ := vaA_open (hw.b [vaA vq V])
 refine z2 ?_
 refine x_nc rfl rfl ⟨_, rfl, rfl⟩ rfl ?_
 refine z1 ?_
 refine lD (v := .pointer (some ⟨m.q, 0, none⟩)) one_p_pool_Pool hw ?_
 refine x_call rfl rfl ⟨_, rfl, rfl⟩ cal_pool_Pool_Counts rfl (ct_poA_Counts (hw.b [poA m.q V.po]) hok.po) rfl (fun w v73 hv => ?_)
 have hw : Sat G (row 3 1 v73 V.po.c.length (ints V.po.c) :: _) _ := hv
 obtain ⟨da, dc, rfl⟩ := row_form hw
 have hz := vaA_shut hf (hw.b [blk vq _ _, mapI m.om _, stO m.S, row 170 2 m.av _ _, both (m.acs.map wasO), poA m.q V.po])
 clear hw
 have hw := hz.b [row 3 1 (.slice da _ dc) _ _, row 3 1 (.slice ca _ cc) _ _]
 clear hz
 refine x_call rfl rfl ⟨_, rfl, rfl⟩ cal_slices_Equal_int_int rfl (ct_slices_Equal_int_int (l := cvR V.po.c.length A) (l' := V.po.c) hw ((hkc _).of sF) (rowI.of sF) (by rw [cvR_len]; omega)) rfl (fun w v74 hv => ?_)
 obtain ⟨rfl, hw⟩ := hv
 refine x_notp rfl rfl ⟨_, rfl, rfl⟩ rfl ?_
 refine z2 ?_
 refine x_if rfl (fun h4 => ?_) (fun h4 => ?_)
 ·
  refine z2 ?_
  refine x_build (v := .agg #[.int .i64 0, .int .i64 0, .int .i64 0, .int .i64 0, .int .i64 0, .int .i64 0, .int .i64 0, .slice none 0 0]) rfl rfl trivial rfl (fun w => by kernel_rfl) ?_
  refine x_stN (cs := RpV.cells ⟨rpZ, .slice none 0 0⟩) (l' := RpV.cells ⟨rpZ, .slice none 0 0⟩) rfl trivial rfl rfl many_api_Report rfl (by intro u hu; simp [RpV.cells] at hu; rcases hu with rfl | rfl | rfl | rfl | rfl | rfl | rfl | rfl <;> rfl) hw pK (by simp [RpV.cells]) rfl rfl (fun w hw => ?_)
  refine z3 ?_
  refine bodyEnd_leave (marks_mkE Ds) ?_
  refine leave_all hw pK (fun w hw => ?_)
  refine leave2 rfl ⟨_, rfl, (Loads.blkA (l := RpV.cells ⟨rpZ, .slice none 0 0⟩) many_api_Report hw pK rfl)⟩ rfl ⟨rpZ, 18, rfl, ⟨.inr ⟨hck, W, A, hled, .inr ⟨fun hcf => h4 (cfits_iff.2 hcf), rfl, rfl⟩⟩, rfl⟩, ?_⟩
  exact (hw.b [blk b4 _ _, row 3 1 (.slice da _ dc) _ _, row 3 1 (.slice ca _ cc) _ _, row 62 3 _ _ _, blk b6 _ _]).tail.tail.tail.tail.tail
 have hcf : CFits V.po.c A := cfits_iff.1 (Decidable.not_not.1 h4)
 have hAW : ∀ n, n ∈ A ↔ n ∈ W := fun n => ⟨hled.sub n, hled.inn n⟩
 have hWU : ∀ n ∈ W, n ∈ U := hled.min (· ∈ U) hU1 hU3
 refine z9 ?_
 have hz := hw.b [row 3 1 (.slice ca _ cc) _ _, blk b6 _ _, blk b4 _ _, both (Ds.map fun D => dblk D), row 3 1 (.slice da _ dc) _ _, row 62 3 _ _ _, vaA vq V]
 clear hw
 have hw := hz
 clear hz
 refine x_loop (fun m e w => ∃ (k : Nat), k ≤ V.po.c.length ∧ m = V.po.c.length - k ∧ e = (0, .pointer (some ⟨vq, 0, none⟩)) :: (4, .pointer (some ⟨b4, 0, none⟩)) :: (6, .pointer (some ⟨b6, 0, none⟩)) :: (78, .slice ca V.po.c.length cc) :: (79, .int .i64 V.po.c.length) :: (80, .int .i64 k) :: mkE Ds ∧ Sat G (row 3 1 (.slice ca V.po.c.length cc) V.po.c.length (ints (cvR V.po.c.length A)) :: blk b6 [.int .i64 l.length, .int .i64 (((wsK A k).length : Int)), .int .i64 (cntK V.rd 1 (wsK A k)), .int .i64 (cntK V.rd 2 (wsK A k)), .int .i64 (cntB V.rd (wsK A k)), .int .i64 I0, .int .i64 Y0, .slice none 0 0] 40 :: blk b4 (RpV.cells ⟨rpZ, .slice none 0 0⟩) 40 :: both (Ds.map fun D => dblk D) :: row 3 1 (.slice da V.po.c.length dc) V.po.c.length (ints V.po.c) :: row 62 3 (.slice ta l.length tc) l.length (ts.map treeC).flatten :: vaA vq V :: L) w)
  (m := V.po.c.length) (e₀ := (0, .pointer (some ⟨vq, 0, none⟩)) :: (4, .pointer (some ⟨b4, 0, none⟩)) :: (6, .pointer (some ⟨b6, 0, none⟩)) :: (78, .slice ca V.po.c.length cc) :: (79, .int .i64 V.po.c.length) :: (80, .int .i64 (0 : Nat)) :: mkE Ds) (Sub.mk (by repeat (first | exact SubG.nil _ | exact subG_mkE _ _ | refine SubG.mark ?_ | refine SubG.cons rfl ?_)) (by exact rfl))
  ⟨0, Nat.zero_le _, rfl, rfl, hw⟩ ?_
 rintro m e w ⟨k, hk, rfl, rfl, hw⟩
 have hwl := wsK_len A k
 have hk1 := cntK_le V.rd 1 (wsK A k)
 have hk2 := cntK_le V.rd 2 (wsK A k)
 have hk3 := cntB_le V.rd (wsK A k)
 refine z5 ?_
 refine x_if rfl (fun h5 => ?_) (fun h5 => ?_)
 ·
  have hkl : k < V.po.c.length := by omega
  have hcg : (ints (cvR V.po.c.length A))[k]? = some (.int .i64 ((A.count ((k : Int) + 1) : Nat) : Int)) := by rw [ints, List.getElem?_map, cvR_get hkl]; rfl
  obtain ⟨cb, co, hca⟩ := (((hkc _).of sF).at hw).nn (by rw [ints_length, cvR_len]; omega)
  cases hca
  refine z6 ?_
  refine x_idx1 rfl rfl trivial U_sl_int sz_int rfl rfl ⟨by omega, by omega⟩ ?_
  refine x_ld rfl rfl trivial rfl (Loads.one (v := .int .i64 ((A.count ((k : Int) + 1) : Nat) : Int)) one_int ((((hkc _).of sF).at hw).at (by rw [Int.toNat_natCast]; exact hcg))) ?_
  refine z9 ?_
  refine x_if rfl (fun h6 => ?_) (fun h6 => ?_)
  ·
   have hni : (k : Int) + 1 ∉ A := fun hm => by have := List.count_pos_iff.2 hm; omega
   have hws : wsK A (k + 1) = wsK A k := by rw [wsK_step, if_neg hni, List.append_nil]
   refine z5 ?_
   rw [← hws] at hw
   exact ⟨V.po.c.length - (k + 1), by omega, (0, _) :: (4, _) :: (6, _) :: (78, _) :: (79, _) :: (80, .int .i64 (k + 1 : Nat)) :: mkE Ds, (Sub.mk (by repeat (first | exact SubG.nil _ | exact subG_mkE _ _ | refine SubG.mark ?_ | refine SubG.cons rfl ?_)) (by exact rfl)), k + 1, by omega, rfl, rfl, hw⟩
  have hin : (k : Int) + 1 ∈ A := Classical.byContradiction fun hm => by have := List.count_eq_zero_of_not_mem hm; omega
  obtain ⟨p, hrd⟩ : ∃ p, V.rd ((k : Int) + 1) = some p := Option.ne_none_iff_exists'.1 (hU2 _ (hWU _ ((hAW _).1 hin)))
  have hws : wsK A (k + 1) = wsK A k ++ [(k : Int) + 1] := by rw [wsK_step, if_pos hin]
  have hko : kindOf V.rd ((k : Int) + 1) = p.kind := by unfold kindOf; rw [hrd]
  refine z6 ?_
  refine x_call rfl rfl trivial cal_vault_Vault_Read rfl (ct_vaA_Read (n := (k : Int) + 1) (hw.b [vaA vq V]) hok) rfl (fun w v91 hv => ?_)
  obtain ⟨p', er, A', rfl, hone, hcs, hw⟩ := hv
  obtain ⟨hrd', rfl, rfl, hps⟩ := hcs.resolve_left (fun h => by rw [h.1] at hrd; cases hrd)
  refine z3 ?_
  refine x_alloc rfl rfl trivial z_api_Page hw rfl (fun w b16 hw => ?_)
  refine x_stN (cs := p'.cells) (l' := p'.cells) rfl trivial rfl rfl many_api_Page rfl hone hw pK (by simp [PgV.cells]) rfl (by kernel_rfl) (fun w hw => ?_)
  rw [hrd] at hrd'
  obtain rfl : p = p'.pg := Option.some.inj hrd'
  have hko : kindOf V.rd ((k : Int) + 1) = p'.kind := hko
  refine z8 ?_
  refine x_if rfl (fun h7 => ?_) (fun h7 => ?_)
  ·
   exact absurd rfl h7
  refine z4 ?_
  refine lD (v := .int .i64 ((wsK A k).length : Int)) one_int hw ?_
  refine z2 ?_
  refine x_st1 (l' := [.int .i64 l.length, .int .i64 (((wsK A k).length : Int) + 1), .int .i64 (cntK V.rd 1 (wsK A k)), .int .i64 (cntK V.rd 2 (wsK A k)), .int .i64 (cntB V.rd (wsK A k)), .int .i64 I0, .int .i64 Y0, .slice none 0 0]) rfl trivial rfl rfl one_int rfl hw pK rfl rfl rfl (fun w hw => ?_)
  refine z4 ?_
  refine lD (v := .int .i64 p'.kind) one_int hw ?_
  refine z7 ?_
  refine x_if rfl (fun h8 => ?_) (fun h8 => ?_)
  ·
   refine z2 ?_
   refine lD (v := .int .i64 (cntK V.rd 1 (wsK A k))) one_int hw ?_
   refine z2 ?_
   refine x_st1 (l' := [.int .i64 l.length, .int .i64 (((wsK A k).length : Int) + 1), .int .i64 (cntK V.rd 1 (wsK A k) + 1), .int .i64 (cntK V.rd 2 (wsK A k)), .int .i64 (cntB V.rd (wsK A k)), .int .i64 I0, .int .i64 Y0, .slice none 0 0]) rfl trivial rfl rfl one_int rfl hw pK rfl rfl rfl (fun w hw => ?_)
   refine z5 ?_
   have e0 : (((wsK A (k + 1)).length : Nat) : Int) = ((wsK A k).length : Int) + 1 := by rw [hws, List.length_append]; rfl
   have e1 : cntK V.rd 1 (wsK A (k + 1)) = cntK V.rd 1 (wsK A k) + 1 := by rw [hws, cntK_snoc, hko, if_pos h8]
   have e2 : cntK V.rd 2 (wsK A (k + 1)) = cntK V.rd 2 (wsK A k) := by rw [hws, cntK_snoc, hko, if_neg (by omega), Int.add_zero]
   have e3 : cntB V.rd (wsK A (k + 1)) = cntB V.rd (wsK A k) := by rw [hws, cntB_snoc, hko, if_neg (by omega), Int.add_zero]
   rw [← e0, ← e1, ← e2, ← e3] at hw
   exact ⟨V.po.c.length - (k + 1), by omega, (0, _) :: (4, _) :: (6, _) :: (78, _) :: (79, _) :: (80, .int .i64 (k + 1 : Nat)) :: mkE Ds, (Sub.mk (by repeat (first | exact SubG.nil _ | exact subG_mkE _ _ | refine SubG.mark ?_ | refine SubG.cons rfl ?_)) (by exact rfl)), k + 1, by omega, rfl, rfl, (hw.b [blk b16 _ _, pgO p', row 3 1 (.slice (some ⟨cb, co, none⟩) _ cc) _ _, blk b6 _ _, blk b4 _ _, both _, row 3 1 (.slice da _ dc) _ _, row 62 3 _ _ _, vaA vq V]).tail.tail⟩
  refine z5 ?_
  refine x_if rfl (fun h9 => ?_) (fun h9 => ?_)
  ·
   refine z2 ?_
   refine lD (v := .int .i64 (cntK V.rd 2 (wsK A k))) one_int hw ?_
   refine z2 ?_
   refine x_st1 (l' := [.int .i64 l.length, .int .i64 (((wsK A k).length : Int) + 1), .int .i64 (cntK V.rd 1 (wsK A k)), .int .i64 (cntK V.rd 2 (wsK A k) + 1), .int .i64 (cntB V.rd (wsK A k)), .int .i64 I0, .int .i64 Y0, .slice none 0 0]) rfl trivial rfl rfl one_int rfl hw pK rfl rfl rfl (fun w hw => ?_)
   refine z5 ?_
   have e0 : (((wsK A (k + 1)).length : Nat) : Int) = ((wsK A k).length : Int) + 1 := by rw [hws, List.length_append]; rfl
   have e1 : cntK V.rd 1 (wsK A (k + 1)) = cntK V.rd 1 (wsK A k) := by rw [hws, cntK_snoc, hko, if_neg h8, Int.add_zero]
   have e2 : cntK V.rd 2 (wsK A (k + 1)) = cntK V.rd 2 (wsK A k) + 1 := by rw [hws, cntK_snoc, hko, if_pos h9]
   have e3 : cntB V.rd (wsK A (k + 1)) = cntB V.rd (wsK A k) := by rw [hws, cntB_snoc, hko, if_neg (by omega), Int.add_zero]
   rw [← e0, ← e1, ← e2, ← e3] at hw
   exact ⟨V.po.c.length - (k + 1), by omega, (0, _) :: (4, _) :: (6, _) :: (78, _) :: (79, _) :: (80, .int .i64 (k + 1 : Nat)) :: mkE Ds, (Sub.mk (by repeat (first | exact SubG.nil _ | exact subG_mkE _ _ | refine SubG.mark ?_ | refine SubG.cons rfl ?_)) (by exact rfl)), k + 1, by omega, rfl, rfl, (hw.b [blk b16 _ _, pgO p', row 3 1 (.slice (some ⟨cb, co, none⟩) _ cc) _ _, blk b6 _ _, blk b4 _ _, both _, row 3 1 (.slice da _ dc) _ _, row 62 3 _ _ _, vaA vq V]).tail.tail⟩
  refine z2 ?_
  refine lD (v := .int .i64 (cntB V.rd (wsK A k))) one_int hw ?_
  refine z2 ?_
  refine x_st1 (l' := [.int .i64 l.length, .int .i64 (((wsK A k).length : Int) + 1), .int .i64 (cntK V.rd 1 (wsK A k)), .int .i64 (cntK V.rd 2 (wsK A k)), .int .i64 (cntB V.rd (wsK A k) + 1), .int .i64 I0, .int .i64 Y0, .slice none 0 0]) rfl trivial rfl rfl one_int rfl hw pK rfl rfl rfl (fun w hw => ?_)
  refine z5 ?_
  have e0 : (((wsK A (k + 1)).length : Nat) : Int) = ((wsK A k).length : Int) + 1 := by rw [hws, List.length_append]; rfl
  have e1 : cntK V.rd 1 (wsK A (k + 1)) = cntK V.rd 1 (wsK A k) := by rw [hws, cntK_snoc, hko, if_neg h8, Int.add_zero]
  have e2 : cntK V.rd 2 (wsK A (k + 1)) = cntK V.rd 2 (wsK A k) := by rw [hws, cntK_snoc, hko, if_neg h9, Int.add_zero]
  have e3 : cntB V.rd (wsK A (k + 1)) = cntB V.rd (wsK A k) + 1 := by rw [hws, cntB_snoc, hko, if_pos ⟨h8, h9⟩]
  rw [← e0, ← e1, ← e2, ← e3] at hw
  exact ⟨V.po.c.length - (k + 1), by omega, (0, _) :: (4, _) :: (6, _) :: (78, _) :: (79, _) :: (80, .int .i64 (k + 1 : Nat)) :: mkE Ds, (Sub.mk (by repeat (first | exact SubG.nil _ | exact subG_mkE _ _ | refine SubG.mark ?_ | refine SubG.cons rfl ?_)) (by exact rfl)), k + 1, by omega, rfl, rfl, (hw.b [blk b16 _ _, pgO p', row 3 1 (.slice (some ⟨cb, co, none⟩) _ cc) _ _, blk b6 _ _, blk b4 _ _, both _, row 3 1 (.slice da _ dc) _ _, row 62 3 _ _ _, vaA vq V]).tail.tail⟩
 have hke : k = V.po.c.length := by omega
 subst hke
 have hpm : W.Perm (wsK A V.po.c.length) := (List.perm_ext_iff_of_nodup hled.nd (wsK_nodup A _)).2 fun n => by
  rw [wsK_mem, hAW]
  exact ⟨fun h => ⟨h, Va.rd_in (hU2 n (hWU n h))⟩, fun h => h.1⟩
 have hrp : [.int .i64 l.length, .int .i64 (((wsK A V.po.c.length).length : Int)), .int .i64 (cntK V.rd 1 (wsK A V.po.c.length)), .int .i64 (cntK V.rd 2 (wsK A V.po.c.length)), .int .i64 (cntB V.rd (wsK A V.po.c.length)), .int .i64 I0, .int .i64 Y0, .slice none 0 0] = RpV.cells ⟨rpOf V.rd ts ts W, .slice none 0 0⟩ := by
  rw [rp_perm hpm]
  simp only [rpOf, RpV.cells, ← hI0, ← hY0, htl]
 rw [hrp] at hw
 refine z3 ?_
 refine lA (l := RpV.cells ⟨rpOf V.rd ts ts W, .slice none 0 0⟩) many_api_Report hw ?_
 refine x_stN (cs := RpV.cells ⟨rpOf V.rd ts ts W, .slice none 0 0⟩) (l' := RpV.cells ⟨rpOf V.rd ts ts W, .slice none 0 0⟩) rfl trivial rfl rfl many_api_Report rfl (by intro u hu; simp [RpV.cells] at hu; rcases hu with rfl | rfl | rfl | rfl | rfl | rfl | rfl | rfl <;> rfl) hw pK (by simp [RpV.cells]) rfl rfl (fun w hw => ?_)
 refine z3 ?_
 refine bodyEnd_leave (marks_mkE Ds) ?_
 refine leave_all hw pK (fun w hw => ?_)
 refine leave2 rfl ⟨_, rfl, (Loads.blkA (l := RpV.cells ⟨rpOf V.rd ts ts W, .slice none 0 0⟩) many_api_Report hw pK rfl)⟩ rfl ⟨rpOf V.rd ts ts W, 0, rfl, ⟨.inr ⟨hck, W, A, hled, .inl ⟨hcf, rfl, rfl⟩⟩, rfl⟩, ?_⟩
 exact (hw.b [row 3 1 (.slice ca _ cc) _ _, blk b6 _ _, blk b4 _ _, row 3 1 (.slice da _ dc) _ _, row 62 3 _ _ _]).tail.tail.tail.tail.tail
end
theorem putO_ok {f : Nat} {V : Va} {T : Tr} {key value : Bys} {res : Tr × Bool × Int × Va} (hok : V.Ok) (h : putO f V T key value = some res) : res.2.2.2.Ok := by
 unfold putO at h
 split at h
 ·cases h; exact hok
 split at h
 ·cases h; exact hok
 split at h
 ·cases h; exact hok
 split at h
 ·cases h; exact hok
 split at h
 ·cases h
 rename_i r hr
 split at h
 ·cases h; exact hok
 cases h; exact (putP_lt (store_lt hok key value).ok hr).ok
def fixV : Va := loadVa 9 (List.replicate 6 0) []
def fixK : Bys := [97, 98, 99, 100, 109, 110, 111, 112, 113]
def fixS : Nat → Option (Tr × Va)
 | 0 => some (trZ, fixV)
 | j + 1 => match fixS j with
  | none => none
  | some (T, V) => match putO 4 V T [fixK.getD j 0] [120, 120] with
    | some (T', _, _, V') => some (T', V')
    | none => none
def fixOk (j : Nat) : Bool := match fixS j with
 | none => false
 | some (T, V) => ((getP V.rd T [fixK.getD j 0]).2.1 == false) && (match putO 4 V T [fixK.getD j 0] [120, 120] with
   | some (_, b, e, _) => (b == false) && decide (e = 0)
   | none => false) && decide (V.sz ≤ 100 ∧ (0 ≤ T.height ∧ T.height ≤ 100) ∧ (0 ≤ T.items ∧ T.items ≤ 100))
theorem fixOk_all : (List.range 9).all fixOk = true := by decide +kernel
theorem fix_step {j : Nat} (hj : j < 9) {T : Tr} {V : Va} (h : fixS j = some (T, V)) : ∃ T' V', (getP V.rd T [fixK.getD j 0]).2.1 = false ∧ putO 4 V T [fixK.getD j 0] [120, 120] = some (T', false, 0, V') ∧ fixS (j + 1) = some (T', V') ∧ V.sz ≤ 100 ∧ (0 ≤ T.height ∧ T.height ≤ 100) ∧ (0 ≤ T.items ∧ T.items ≤ 100) := by
 have h1 := (List.all_eq_true.1 fixOk_all) j (List.mem_range.2 hj)
 unfold fixOk at h1
 rw [h] at h1
 simp only [Bool.and_eq_true, beq_iff_eq, decide_eq_true_eq] at h1
 obtain ⟨⟨h2, h3⟩, h4, h5, h6⟩ := h1
 cases hp : putO 4 V T [fixK.getD j 0] [120, 120] with
 | none => rw [hp] at h3; cases h3
 | some r =>
  obtain ⟨T', b, e, V'⟩ := r
  rw [hp] at h3
  simp only [Bool.and_eq_true, beq_iff_eq, decide_eq_true_eq] at h3
  obtain ⟨rfl, rfl⟩ := h3
  refine ⟨T', V', h2, rfl, ?_, h4, h5, h6⟩
  rw [fixS, h]
  simp only [hp]
def fixP : Bool := match fixS 9 with
 | none => false
 | some (T, V) => decide (chkT V.rd T = 0 ∧ rootsOf [T] = [3] ∧ kidsOf V.rd 3 = [1, 2] ∧ kidsOf V.rd 1 = [] ∧ kidsOf V.rd 2 = [] ∧ V.po.c = [1, 1, 1, 0, 0, 0] ∧ rpOf V.rd [T] [T] [3, 1, 2] = ⟨1, 3, 2, 1, 0, 9, 18, []⟩)
theorem fixP_ok : fixP = true := by decide +kernel
theorem fix_whole {T : Tr} {V : Va} (h : fixS 9 = some (T, V)) : WholeR V.rd V.po.c [T] ⟨1, 3, 2, 1, 0, 9, 18, []⟩ 0 ∧ WholeR V.rd V.po.c [] rpZ 18 := by
 have h1 := fixP_ok
 unfold fixP at h1
 rw [h] at h1
 simp only [decide_eq_true_eq] at h1
 obtain ⟨h2, h3, h4, h5, h6, h7, h8⟩ := h1
 have key : ∀ {rd : Int → Option Pg} {roots : List Int}, roots = [] → Led rd roots [] [] := fun {rd roots} hr => ⟨by simp, by simp [hr], by simp, by simp, by simp⟩
 refine ⟨.inr ⟨by simpa using h2, [3, 1, 2], [3, 1, 2], ⟨by decide, by simp [h3, h4, h5, h6], fun _ h => h, fun _ h => h, fun U hr hc n hn => ?_⟩, .inl ⟨?_, h8.symm, rfl⟩⟩, .inr ⟨by simp, [], [], key rfl, .inr ⟨?_, rfl, rfl⟩⟩⟩
 ·have u3 : U 3 := hr 3 (by rw [h3]; simp)
  simp at hn
  rcases hn with rfl | rfl | rfl
  ·exact u3
  ·exact hc 3 u3 1 (by rw [h4]; simp)
  exact hc 3 u3 2 (by rw [h4]; simp)
 ·rw [h7]
  exact cfits_iff.1 (by decide)
 rw [h7]
 exact fun hc => absurd (cfits_iff.2 hc) (by decide)
def blkM (b : Nat) (l : List Value) (T : TypeId) : Assn := pt b (.cells l.toArray T (l.length, l.length + 1))
section
variable {P : Program} {n : Nat} {ops : Array Oper} {dr : Bool} {done r : List Nat} {K : Env → World → Prop} {e : Env} {w : World} {i d s : Nat} {t : TypeId} {p : String} {af : Array Edge} {g : Option (Nat × Bool)}
variable {G : Gh} {L R : List Assn}
theorem freeze_set {w : World} {b : Nat} {c : Array Value} {T : TypeId} (h : w.heap[b]? = some (.cells c T (0, 0))) : w.freeze ⟨b, c.size, none⟩ 1 = { w with heap := w.heap.setIfInBounds b (.cells c T (c.size, c.size + 1)) } := by
 obtain ⟨hb, h2⟩ := Array.getElem?_eq_some_iff.1 h
 unfold World.freeze
 rw [if_neg (by decide)]
 congr 1
 apply Array.ext
 ·simp
 intro k h3 h4
 simp only [Array.getElem_modify, Array.getElem_setIfInBounds]
 by_cases hk : b = k
 ·subst hk
  rw [if_pos rfl, Array.getElem_setIfInBounds_self, h2]
  rfl
 rw [if_neg hk, Array.getElem_setIfInBounds_ne _ hk]
theorem x_convB {c : TypeId} {x : Operand} {b m cap : Nat} {l : List Value} {T : TypeId} (ho : ops[i]? = some ⟨some d, .convert s s x, t, p, af, g⟩) (hd : Nat.blt d n = true) (hg : Gd ops e g) (hs : P.underlying s = some (.slice c)) (hc : P.underlying c = some (.int .u8))
  (hx : ev e x = some (.slice (some ⟨b, 0, none⟩) m cap)) (hw : Sat G L w) (hp : Pick (blk b l T) L R) (hpd : pend P ops dr done i = [])
  (h : ∀ w', Sat G (blkM b l T :: R) w' → XL P n ops dr (i :: done) r K ((d, .slice (some ⟨b, 0, none⟩) m cap) :: e) w') : XL P n ops dr done (i :: r) K e w := by
 have hb := (hw.pick hp).pt_head
 have hsh : w.shape? b = some (T, l.length) := by unfold World.shape?; rw [hb]; simp
 have hfz := freeze_set hb
 have hset := (hw.pick hp).set (.cells l.toArray T (l.length, l.length + 1))
 refine xl_eff ho (by simpa [dstOk] using hd) hg (ρ := rh e) (by intro z hZ; simp [Op.operands] at hZ; exact oh1 hx hZ) (by simp [okind, hs]) (v := .slice (some ⟨b, 0, none⟩) m cap) (w' := { w with heap := w.heap.setIfInBounds b (.cells l.toArray T (l.length, l.length + 1)) }) ?_ (noPend hpd) (h _ hset)
 simp only [List.size_toArray] at hfz
 simp [execOp, rh_of hx, convert, run_underlying hs, run_underlying hc, markStringish, hsh, hfz]
end
theorem blkM_slb {b : Nat} {l : Bys} {T : TypeId} {R : List Assn} : Knows (blkM b (bys l) T :: R) (SlB (.slice (some ⟨b, 0, none⟩) l.length l.length) l) := fun g w hw => by
 have hb := hw.pt_head
 refine .inr ⟨b, 0, l.length, rfl, Nat.le_refl _, fun j u hu => ?_⟩
 rw [add_lit, cell_of_row w b _ _ _ _ hb]
 simpa using hu
theorem blkM_slv {b : Nat} {l : List Value} {T : TypeId} {R : List Assn} : Knows (blkM b l T :: R) (SlV (.slice (some ⟨b, 0, none⟩) l.length l.length) l) := fun g w hw => by
 have hb := hw.pt_head
 refine .inr ⟨b, 0, l.length, rfl, Nat.le_refl _, fun j u hu => ?_⟩
 rw [add_lit, cell_of_row w b _ _ _ _ hb]
 simpa using hu
theorem fixK_at {j : Nat} (hj : j < 8) : (bys [97, 98, 99, 100, 109, 110, 111, 112])[j]? = some (bv (fixK.getD j 0)) := by
 rcases j with _ | _ | _ | _ | _ | _ | _ | _ | j <;> first | rfl | omega
theorem roots_slt {b T : Nat} {t : Tr} {R : List Assn} : Knows (row T 4 (.slice (some ⟨b, 0, none⟩) 1 1) 1 (rootC (1, t)) :: R) (SlT 4 (.slice (some ⟨b, 0, none⟩) 1 1) ([(1, t)].map rootC)) := by
 have h := (SlT.row (T := T) (z := 4) (m := 1) (v := .slice (some ⟨b, 0, none⟩) 1 1) (rs := [(1, t)].map rootC) rfl (fun r hr => by simp at hr; subst hr; rfl)).head R
 simpa using h
theorem nil_slt {L : List Assn} : Knows L (SlT 4 (.slice none 0 0) (([] : List (Int × Tr)).map rootC)) := fun g w hw => .inl ⟨none, rfl, by simp, rfl⟩
theorem rp0_ok {r : Rp} (h : r.bad = []) (L : List Assn) : (⟨r, .slice none 0 0⟩ : RpV).Ok L := ⟨fun g w hw => by rw [h]; exact .inl ⟨⟨none, rfl⟩, rfl⟩, by rw [h]; simp⟩
section
variable {G : Gh} {L R : List Assn} {w : World}
theorem ct_law22_fixed (hw : Sat G L w) (kev : Knows L EvK) : Calls Tryz.prog 5 #[] w (Ret fun r w' => r = .bool true ∧ Sat G L w') := by
 refine calls_of_x (args := []) Tryz.func5 rfl Tryz.ntmps5 rfl rfl ?_
 refine z6 ?_
 refine x_call rfl rfl trivial cal_vault_New rfl (ct_vault_New hw) rfl (fun w v12 hv => ?_)
 obtain ⟨-, vq, om, q, cv, lv, fq, fv, rfl, hw⟩ := hv.resolve_left (fun h => h.1 (by decide))
 have hw : Sat G (stO [] :: _) w := Sat.both_in (M := []) hw
 have hw := hw.b [blk vq _ _, mapI om _]
 have hw : Sat G (vaA vq fixV :: L) w := load_shut (on := []) (by decide) (fun x hx => by cases hx) hw
 have hok0 : fixV.Ok := loadVa_ok ⟨by decide, by decide, fun i x hx h0 => by have hm := List.mem_of_getElem? hx; rw [List.eq_of_mem_replicate hm] at h0; omega⟩
 refine z12 ?_
 refine xl_split (d := 17) rfl (fun h1 => ?_) (fun h1 => ?_)
 ·
  exact absurd rfl h1
 refine z1 ?_
 refine x_eqnil rfl rfl ⟨_, rfl, rfl⟩ (by kernel_rfl) U_p_vault_Vault rfl ?_
 refine z2 ?_
 refine x_cond rfl (fun h2 => ?_) (fun h2 => ?_)
 ·
  cases h2
 refine z3 ?_
 refine x_build (v := .agg (treeC trZ).toArray) rfl rfl trivial rfl (fun w => by kernel_rfl) ?_
 refine x_alloc rfl rfl trivial z_api_Tree hw rfl (fun w b3 hw => ?_)
 refine x_stN (cs := treeC trZ) (l' := treeC trZ) rfl trivial rfl rfl many_api_Tree rfl (by intro u hu; simp [treeC] at hu; rcases hu with rfl | rfl | rfl <;> rfl) hw pK (by simp [treeC]) rfl rfl (fun w hw => ?_)
 refine z4 ?_
 refine x_bsN (cs := bys [97, 98, 99, 100, 109, 110, 111, 112]) rfl rfl trivial U_sl_uint8 sz_uint8 z_uint8 (by decide) rfl (by kernel_rfl) hw rfl (fun w b22 hw => ?_)
 refine x_convB rfl rfl trivial U_sl_uint8 U_uint8 rfl hw pK rfl (fun w hw => ?_)
 refine z4 ?_
 have hw := hw.b [blk b3 _ _, blkM b22 _ _, vaA vq fixV]
 refine x_loop (fun m e w => ∃ (j : Nat) (T : Tr) (V : Va), j ≤ 8 ∧ m = 8 - j ∧ e = [(1, .pointer (some ⟨vq, 0, none⟩)), (3, .pointer (some ⟨b3, 0, none⟩)), (23, .slice (some ⟨b22, 0, none⟩) 8 8), (24, .int .i64 8), (25, .int .i64 j)] ∧ (fixS j = some (T, V) ∧ V.Ok) ∧ Sat G (blk b3 (treeC T) 62 :: blkM b22 (bys [97, 98, 99, 100, 109, 110, 111, 112]) 5 :: vaA vq V :: L) w)
  (m := 8) (e₀ := [(1, .pointer (some ⟨vq, 0, none⟩)), (3, .pointer (some ⟨b3, 0, none⟩)), (23, .slice (some ⟨b22, 0, none⟩) 8 8), (24, .int .i64 8), (25, .int .i64 (0 : Nat))]) sB
  ⟨0, trZ, fixV, Nat.zero_le _, rfl, rfl, ⟨rfl, hok0⟩, hw⟩ ?_
 rintro m e w ⟨j, T, V, hj, rfl, rfl, ⟨hfx, hok⟩, hw⟩
 obtain ⟨T', V', hgp, hpo, hfn, hsz, hh, hT⟩ := fix_step (by omega) hfx
 have hok' := putO_ok hok hpo
 refine z5 ?_
 refine x_if rfl (fun h3 => ?_) (fun h3 => ?_)
 ·
  have hj8 : j < 8 := by omega
  refine z5 ?_
  refine x_idx1 rfl rfl trivial U_sl_uint8 sz_uint8 rfl rfl ⟨by omega, by omega⟩ ?_
  refine x_ld rfl rfl trivial rfl (Loads.one (v := bv (fixK.getD j 0)) one_uint8 (by
 have h := ((blkM_slv (b := b22) (l := bys [97, 98, 99, 100, 109, 110, 111, 112])).of sF).at hw
 exact SlV.at h (i := j) (by rw [Int.toNat_natCast]; exact fixK_at hj8))) ?_
  refine z5 ?_
  refine lA (l := treeC T) many_api_Tree hw ?_
  refine z1 ?_
  refine x_bs1 (cs := bys [fixK.getD j 0]) rfl rfl trivial U_sl_uint8 sz_uint8 zs_uint8 (by decide) rfl rfl rfl hw rfl (fun w b33 hw => ?_)
  refine x_bsN (cs := bys [120, 120]) rfl rfl trivial U_sl_uint8 sz_uint8 z_uint8 (by decide) rfl (by kernel_rfl) hw rfl (fun w b34 hw => ?_)
  refine x_convB rfl rfl trivial U_sl_uint8 U_uint8 rfl hw pK rfl (fun w hw => ?_)
  refine x_call rfl rfl trivial cal_put_Put rfl (ct_put_Put (f := 4) (T := T) (key := [fixK.getD j 0]) (value := [120, 120]) ((row_full (z := 1) (m := 1) (hw.b [blk b33 _ _]) rfl (by decide)).b [vaA vq V]) hok (by omega) ((rowB rfl .here).of sF) ((blkM_slb (l := [120, 120])).of sF) (by omega) (by omega) hgp hpo) rfl (fun w v36 hv => ?_)
  obtain ⟨rfl, hw⟩ := hv
  refine z4 ?_
  refine x_stN (cs := treeC T') (l' := treeC T') rfl trivial rfl rfl many_api_Tree rfl (by intro u hu; simp [treeC] at hu; rcases hu with rfl | rfl | rfl <;> rfl) hw pK (by simp [treeC]) rfl rfl (fun w hw => ?_)
  refine z7 ?_
  refine x_if rfl (fun h4 => ?_) (fun h4 => ?_)
  ·
   exact absurd rfl h4
  refine z5 ?_
  exact ⟨8 - (j + 1), by omega, [(1, _), (3, _), (23, _), (24, _), (25, .int .i64 (j + 1 : Nat))], sB, j + 1, T', V', by omega, rfl, rfl, ⟨hfn, hok'⟩, (hw.b [row 5 1 (.slice (some ⟨b33, 0, none⟩) _ _) _ _, blkM b34 _ _, blk b3 _ _, blkM b22 _ _, vaA vq V']).tail.tail⟩
 have hj8 : j = 8 := by omega
 rw [hj8] at hfn hpo hgp
 refine z4 ?_
 refine lA (l := treeC T) many_api_Tree hw ?_
 refine x_bs1 (cs := bys [113]) rfl rfl trivial U_sl_uint8 sz_uint8 zs_uint8 (by decide) rfl rfl rfl hw rfl (fun w b46 hw => ?_)
 refine x_convB rfl rfl trivial U_sl_uint8 U_uint8 rfl hw pK rfl (fun w hw => ?_)
 refine x_bsN (cs := bys [120, 120]) rfl rfl trivial U_sl_uint8 sz_uint8 z_uint8 (by decide) rfl (by kernel_rfl) hw rfl (fun w b48 hw => ?_)
 refine x_convB rfl rfl trivial U_sl_uint8 U_uint8 rfl hw pK rfl (fun w hw => ?_)
 refine x_call rfl rfl trivial cal_put_Put rfl (ct_put_Put (f := 4) (T := T) (key := [113]) (value := [120, 120]) (hw.b [vaA vq V]) hok (by omega) ((blkM_slb (l := [113])).of sF) ((blkM_slb (l := [120, 120])).of sF) (by omega) (by omega) hgp hpo) rfl (fun w v50 hv => ?_)
 obtain ⟨rfl, hw⟩ := hv
 refine z4 ?_
 refine x_stN (cs := treeC T') (l' := treeC T') rfl trivial rfl rfl many_api_Tree rfl (by intro u hu; simp [treeC] at hu; rcases hu with rfl | rfl | rfl <;> rfl) hw pK (by simp [treeC]) rfl rfl (fun w hw => ?_)
 refine z5 ?_
 refine lA (l := treeC T') many_api_Tree hw ?_
 refine x_build (v := .agg (rootC (1, T')).toArray) rfl rfl trivial rfl (fun w => by kernel_rfl) ?_
 refine x_bs1 (cs := rootC (1, T')) rfl rfl trivial U_sl_api_Root sz_api_Root zs_api_Root (by decide) rfl rfl rfl hw rfl (fun w b58 hw => ?_)
 have hw := row_full (z := 4) (m := 1) hw rfl (by decide)
 refine x_call rfl rfl trivial cal_fsck_Whole rfl (ct_fsck_Whole (V := V') (l := [(1, T')]) (hw.b [vaA vq V']) hok' (roots_slt.of sF) (by simp) (kev.of sF)) rfl (fun w v59 hv => ?_)
 obtain ⟨rp, er, rfl, ⟨hwr, hbad⟩, hw⟩ := hv
 obtain ⟨hfw1, hfw2⟩ := fix_whole hfn
 obtain ⟨rfl, rfl⟩ := hwr.one hfw1
 refine z3 ?_
 refine x_alloc rfl rfl trivial z_api_Report hw rfl (fun w b6 hw => ?_)
 refine x_stN (cs := RpV.cells ⟨⟨1, 3, 2, 1, 0, 9, 18, []⟩, .slice none 0 0⟩) (l' := RpV.cells ⟨⟨1, 3, 2, 1, 0, 9, 18, []⟩, .slice none 0 0⟩) rfl trivial rfl rfl many_api_Report rfl (by intro u hu; simp [RpV.cells] at hu; rcases hu with rfl | rfl | rfl | rfl | rfl | rfl | rfl | rfl <;> rfl) hw pK (by simp [RpV.cells]) rfl rfl (fun w hw => ?_)
 refine z5 ?_
 refine x_call rfl rfl trivial cal_fsck_Whole rfl (ct_fsck_Whole (V := V') (l := []) (hw.b [vaA vq V']) hok' nil_slt (by simp) (kev.of sF)) rfl (fun w v64 hv => ?_)
 obtain ⟨rp2, er2, rfl, ⟨hwr2, hbad2⟩, hw⟩ := hv
 obtain ⟨rfl, rfl⟩ := hwr2.one hfw2
 refine z3 ?_
 refine x_alloc rfl rfl trivial z_api_Report hw rfl (fun w b8 hw => ?_)
 refine x_stN (cs := RpV.cells ⟨rpZ, .slice none 0 0⟩) (l' := RpV.cells ⟨rpZ, .slice none 0 0⟩) rfl trivial rfl rfl many_api_Report rfl (by intro u hu; simp [RpV.cells] at hu; rcases hu with rfl | rfl | rfl | rfl | rfl | rfl | rfl | rfl <;> rfl) hw pK (by simp [RpV.cells]) rfl rfl (fun w hw => ?_)
 refine z4 ?_
 refine x_build (v := .agg (RpV.cells ⟨⟨1, 3, 2, 1, 0, 9, 18, []⟩, .slice none 0 0⟩).toArray) rfl rfl trivial rfl (fun w => by kernel_rfl) ?_
 refine x_alloc rfl rfl trivial z_api_Report hw rfl (fun w b10 hw => ?_)
 refine x_stN (cs := RpV.cells ⟨⟨1, 3, 2, 1, 0, 9, 18, []⟩, .slice none 0 0⟩) (l' := RpV.cells ⟨⟨1, 3, 2, 1, 0, 9, 18, []⟩, .slice none 0 0⟩) rfl trivial rfl rfl many_api_Report rfl (by intro u hu; simp [RpV.cells] at hu; rcases hu with rfl | rfl | rfl | rfl | rfl | rfl | rfl | rfl <;> rfl) hw pK (by simp [RpV.cells]) rfl rfl (fun w hw => ?_)
 refine z6 ?_
 refine xl_split (d := 70) rfl (fun h5 => ?_) (fun h5 => ?_)
 ·
  refine z4 ?_
  refine xl_split (d := 74) rfl (fun h6 => ?_) (fun h6 => ?_)
  ·
   refine lA (l := RpV.cells ⟨⟨1, 3, 2, 1, 0, 9, 18, []⟩, .slice none 0 0⟩) many_api_Report hw ?_
   refine lA (l := RpV.cells ⟨⟨1, 3, 2, 1, 0, 9, 18, []⟩, .slice none 0 0⟩) many_api_Report hw ?_
   refine x_call rfl rfl ⟨_, rfl, rfl⟩ cal_law22_sameReport rfl (ct_law22_sameReport (a := ⟨⟨1, 3, 2, 1, 0, 9, 18, []⟩, .slice none 0 0⟩) (b := ⟨⟨1, 3, 2, 1, 0, 9, 18, []⟩, .slice none 0 0⟩) hw (rp0_ok rfl _) (rp0_ok rfl _)) rfl (fun w v77 hv => ?_)
   obtain ⟨rfl, hw⟩ := hv
   refine z2 ?_
   refine xl_split (d := 79) rfl (fun h7 => ?_) (fun h7 => ?_)
   ·
    refine z6 ?_
    exact end1 rfl rfl rfl ⟨by simp, (by repeat (first | exact hw | replace hw := hw.tail))⟩
   exact absurd rfl h7
  exact absurd rfl h6
 exact absurd rfl h5
end
theorem rootsF_len : ∀ (k : Nat) (l : List Tr), (rootsF k l).length = l.length
 | _, [] => rfl
 | k, t :: l => by rw [rootsF, List.length_cons, List.length_cons, rootsF_len]
theorem rootsL_len (l : List Tr) : (rootsL l).length = l.length := rootsF_len 0 l
section
variable {G : Gh} {L R : List Assn} {w : World}
theorem ct_law22_FsckWhole {refs : Int} {vc vl vt : Value} {c : List Int} {l : List (Int × PgV)} {ts : List Tr} (hw : Sat G L w) (kev : Knows L EvK) (kc : Knows L (SlV vc (ints c))) (kl : Knows L (SlT 6 vl (l.map numC))) (hlo : ∀ x ∈ l, x.2.Ok L) (kt : Knows L (SlT 3 vt (ts.map treeC))) (hl3 : ts.length ≤ 140737488355328) :
  Calls Tryz.prog 3 #[.agg #[.int .i64 refs, vc, vl, vt]] w (Ret fun r w' => r = .bool true ∧ Sat G L w') := by
 obtain ⟨ca, cc, rfl⟩ := (kc.at hw).form
 obtain ⟨la, lac, rfl, -, -⟩ := (kl.at hw).form
 obtain ⟨ta, tac, rfl, -, -⟩ := (kt.at hw).form
 rw [ints_length] at kc
 rw [List.length_map] at kl kt
 rw [ints_length, List.length_map, List.length_map]
 refine calls_of_x (args := [_]) Tryz.func3 rfl Tryz.ntmps3 rfl rfl ?_
 refine z2 ?_
 refine x_box rfl rfl trivial rfl rfl hw rfl (fun w b1 hw => ?_)
 refine z5 ?_
 refine x_call rfl rfl trivial cal_law22_fixed rfl (ct_law22_fixed hw (kev.of sF)) rfl (fun w v11 hv => ?_)
 obtain ⟨rfl, hw⟩ := hv
 refine x_not rfl rfl trivial rfl ?_
 refine xl_nil ?_
 refine x_cond rfl (fun h1 => ?_) (fun h1 => ?_)
 ·
  cases h1
 refine z5 ?_
 refine lD (v := .slice ca c.length cc) one_sl_int hw ?_
 refine z3 ?_
 refine xl_split (d := 17) rfl (fun h2 => ?_) (fun h2 => ?_)
 ·
  refine z12 ?_
  refine x_cond_true rfl ?_
  refine z5 ?_
  exact end1 rfl rfl rfl ⟨rfl, (by repeat (first | exact hw | replace hw := hw.tail))⟩
 refine z1 ?_
 refine lD (v := .slice la l.length lac) one_sl_api_Numbered hw ?_
 refine x_len rfl rfl ⟨_, rfl, rfl⟩ (by kernel_rfl) U_sl_api_Numbered rfl ?_
 refine z3 ?_
 refine xl_split (d := 23) rfl (fun h3 => ?_) (fun h3 => ?_)
 ·
  refine z6 ?_
  refine x_cond_true rfl ?_
  refine z5 ?_
  exact end1 rfl rfl rfl ⟨rfl, (by repeat (first | exact hw | replace hw := hw.tail))⟩
 refine z1 ?_
 refine lD (v := .slice ta ts.length tac) one_sl_api_Tree hw ?_
 refine x_len rfl rfl ⟨_, rfl, rfl⟩ (by kernel_rfl) U_sl_api_Tree rfl ?_
 refine z3 ?_
 refine x_if rfl (fun h4 => ?_) (fun h4 => ?_)
 ·
  refine z5 ?_
  exact end1 rfl rfl rfl ⟨rfl, (by repeat (first | exact hw | replace hw := hw.tail))⟩
 refine z3 ?_
 refine lA (l := [.int .i64 refs, .slice ca c.length cc, .slice la l.length lac, .slice ta ts.length tac]) many_coppiceref14_Image hw ?_
 refine x_call rfl rfl trivial cal_law22_loaded rfl (ct_law22_loaded (c := c) (l := l) hw (kc.of sF) (by omega) (kl.of sF) (fun x hx => (hlo x hx).of sF) (by omega) rfl) rfl (fun w v31 hv => ?_)
 have hv2 : ∃ (pp : Option Addr) (A : Assn), v31 = .tuple #[.pointer pp, .bool true] ∧ ((pp = none ∧ A = both []) ∨ (ldOk refs c (pgs l) ∧ ∃ vq, pp = some ⟨vq, 0, none⟩ ∧ A = vaA vq (loadVa refs c (pgs l)))) ∧ Sat G (A :: blk b1 [.int .i64 refs, .slice ca c.length cc, .slice la l.length lac, .slice ta ts.length tac] 26 :: L) w := by
  rcases hv with ⟨h2, h3, h4⟩ | ⟨h2, vq, h3, h4⟩
  ·exact ⟨none, both [], h3, .inl ⟨rfl, rfl⟩, Sat.both_in (M := []) h4⟩
  exact ⟨some ⟨vq, 0, none⟩, _, h3, .inr ⟨h2, vq, rfl, rfl⟩, h4⟩
 obtain ⟨pp, A, rfl, hca, hw⟩ := hv2
 refine z10 ?_
 refine x_not rfl rfl trivial rfl ?_
 refine z2 ?_
 refine x_eqnil rfl rfl ⟨_, rfl, rfl⟩ (by kernel_rfl) U_p_vault_Vault rfl ?_
 refine z2 ?_
 refine x_cond rfl (fun h6 => ?_) (fun h6 => ?_)
 ·
  have hp0 : pp = none := by simpa using h6
  obtain ⟨-, rfl⟩ := hca.resolve_right (fun h => by obtain ⟨-, vq, h7, -⟩ := h; rw [hp0] at h7; cases h7)
  refine z6 ?_
  exact end1 rfl rfl rfl ⟨rfl, (by repeat (first | exact hw | replace hw := hw.tail))⟩
 have hp0 : pp ≠ none := fun h => by rw [h] at h6; cases h6
 obtain ⟨hld, vq, rfl, rfl⟩ := hca.resolve_left (fun h => hp0 h.1)
 have hok := loadVa_ok hld
 have htn : (rootsL ts).length = ts.length := rootsL_len ts
 refine z4 ?_
 refine lD (v := .slice ta ts.length tac) one_sl_api_Tree hw ?_
 refine x_call rfl rfl trivial cal_law22_roots rfl (ct_law22_roots (l := ts) hw (kt.of sF) (by omega)) rfl (fun w v43 hv => ?_)
 have hw : Sat G (row 69 4 v43 ts.length ((rootsL ts).map rootC).flatten :: _) _ := hv
 have hkr : ∀ R, Knows (row 69 4 v43 ts.length ((rootsL ts).map rootC).flatten :: R) (SlT 4 v43 ((rootsL ts).map rootC)) := fun R => (SlT.row (by rw [List.length_map, htn]) (fun r hr => by obtain ⟨x, -, rfl⟩ := List.mem_map.1 hr; rfl)).head R
 obtain ⟨m, hf, hw⟩ := vaA_open (hw.b [vaA vq _])
 refine z7 ?_
 refine lD (v := .pointer (some ⟨m.q, 0, none⟩)) one_p_pool_Pool hw ?_
 refine x_call rfl rfl trivial cal_pool_Pool_Counts rfl (ct_poA_Counts (hw.b [poA m.q _]) hok.po) rfl (fun w v48 hv => ?_)
 have hw : Sat G (row 3 1 v48 c.length (ints c) :: _) _ := hv
 have hw := vaA_shut hf (hw.b [blk vq _ _, mapI m.om _, stO m.S, row 170 2 m.av _ _, both (m.acs.map wasO), poA m.q _])
 have hw := hw.b [row 3 1 v48 _ _, row 69 4 v43 _ _]
 refine z6 ?_
 refine x_call rfl rfl trivial cal_fsck_Whole rfl (ct_fsck_Whole (l := rootsL ts) (hw.b [vaA vq _]) hok ((hkr _).of sF) (by omega) (kev.of sF)) rfl (fun w v52 hv => ?_)
 obtain ⟨rp, er, rfl, ⟨hwr, hbad⟩, hw⟩ := hv
 have hw := hw.b [row 3 1 v48 _ _, row 69 4 v43 _ _]
 refine z3 ?_
 refine x_alloc rfl rfl trivial z_api_Report hw rfl (fun w b7 hw => ?_)
 refine x_stN (cs := RpV.cells ⟨rp, .slice none 0 0⟩) (l' := RpV.cells ⟨rp, .slice none 0 0⟩) rfl trivial rfl rfl many_api_Report rfl (by intro u hu; simp [RpV.cells] at hu; rcases hu with rfl | rfl | rfl | rfl | rfl | rfl | rfl | rfl <;> rfl) hw pK (by simp [RpV.cells]) rfl rfl (fun w hw => ?_)
 refine z4 ?_
 refine lA (l := [.int .i64 refs, .slice ca c.length cc, .slice la l.length lac, .slice ta ts.length tac]) many_coppiceref14_Image hw ?_
 refine x_call rfl rfl trivial cal_ref14_Image_Vault rfl (ct_ref14_Image_Vault (c := c) (l := l) hw (kc.of sF) (by omega) (kl.of sF) (fun x hx => (hlo x hx).of sF) (by omega) rfl) rfl (fun w v57 hv => ?_)
 obtain ⟨-, rq, v, S, rfl, hrv, -, hw⟩ := hv.resolve_left (fun h => h.1 hld)
 refine z1 ?_
 refine x_call rfl rfl trivial cal_ref22_Whole rfl (ct_ref22_Whole (l := rootsL ts) (rvIs_load hld hrv) hw ((hkr _).of sF) (by omega)) rfl (fun w v59 hv => ?_)
 obtain ⟨rp2, er2, rfl, hwr2, hbad2, hw⟩ := hv
 rw [hrv.ec] at hwr2
 obtain ⟨rfl, rfl⟩ := hwr.one hwr2
 refine z3 ?_
 refine x_alloc rfl rfl trivial z_api_Report hw rfl (fun w b9 hw => ?_)
 refine x_stN (cs := RpV.cells ⟨rp, .slice none 0 0⟩) (l' := RpV.cells ⟨rp, .slice none 0 0⟩) rfl trivial rfl rfl many_api_Report rfl (by intro u hu; simp [RpV.cells] at hu; rcases hu with rfl | rfl | rfl | rfl | rfl | rfl | rfl | rfl <;> rfl) hw pK (by simp [RpV.cells]) rfl rfl (fun w hw => ?_)
 refine z8 ?_
 refine xl_split (d := 65) rfl (fun h7 => ?_) (fun h7 => ?_)
 ·
  refine lA (l := RpV.cells ⟨rp, .slice none 0 0⟩) many_api_Report hw ?_
  refine lA (l := RpV.cells ⟨rp, .slice none 0 0⟩) many_api_Report hw ?_
  refine x_call rfl rfl ⟨_, rfl, rfl⟩ cal_law22_sameReport rfl (ct_law22_sameReport (a := ⟨rp, .slice none 0 0⟩) (b := ⟨rp, .slice none 0 0⟩) hw (rp0_ok hbad _) (rp0_ok hbad _)) rfl (fun w v68 hv => ?_)
  obtain ⟨rfl, hw⟩ := hv
  refine z2 ?_
  refine xl_split (d := 70) rfl (fun h8 => ?_) (fun h8 => ?_)
  ·
   obtain ⟨m2, hf2, hw⟩ := vaA_open (hw.b [vaA vq _])
   refine z1 ?_
   refine x_nc rfl rfl ⟨_, rfl, rfl⟩ rfl ?_
   refine z1 ?_
   refine lD (v := .pointer (some ⟨m2.q, 0, none⟩)) one_p_pool_Pool hw ?_
   refine x_call rfl rfl ⟨_, rfl, rfl⟩ cal_pool_Pool_Counts rfl (ct_poA_Counts (hw.b [poA m2.q _]) hok.po) rfl (fun w v75 hv => ?_)
   have hw : Sat G (row 3 1 v75 c.length (ints c) :: _) _ := hv
   have hw := vaA_shut hf2 (hw.b [blk vq _ _, mapI m2.om _, stO m2.S, row 170 2 m2.av _ _, both (m2.acs.map wasO), poA m2.q _])
   have hw := hw.b [row 3 1 v75 _ _]
   refine z1 ?_
   refine x_call rfl rfl ⟨_, rfl, rfl⟩ cal_ref00_EqInts rfl (ct_ref00_EqInts (l := c) (l' := c) hw (rowI.of sF) (rowI.of sF) (by omega) (by omega)) rfl (fun w v77 hv => ?_)
   obtain ⟨rfl, hw⟩ := hv
   refine z2 ?_
   refine xl_split (d := 79) rfl (fun h9 => ?_) (fun h9 => ?_)
   ·
    refine z2 ?_
    refine lD (v := .slice ta ts.length tac) one_sl_api_Tree hw ?_
    refine x_call rfl rfl ⟨_, rfl, rfl⟩ cal_law22_roots rfl (ct_law22_roots (l := ts) hw (kt.of sF) (by omega)) rfl (fun w v83 hv => ?_)
    have hw : Sat G (row 69 4 v83 ts.length ((rootsL ts).map rootC).flatten :: _) _ := hv
    have hkr2 : ∀ R, Knows (row 69 4 v83 ts.length ((rootsL ts).map rootC).flatten :: R) (SlT 4 v83 ((rootsL ts).map rootC)) := fun R => (SlT.row (by rw [List.length_map, htn]) (fun r hr => by obtain ⟨x, -, rfl⟩ := List.mem_map.1 hr; rfl)).head R
    refine x_call rfl rfl ⟨_, rfl, rfl⟩ cal_ref00_EqRoots rfl (ct_ref00_EqRoots (l := rootsL ts) (l' := rootsL ts) hw ((hkr _).of sF) ((hkr2 _).of sF) (by omega)) rfl (fun w v84 hv => ?_)
    obtain ⟨rfl, hw⟩ := hv
    refine z4 ?_
    exact end1 rfl rfl rfl ⟨by simp, (by repeat (first | exact hw | replace hw := hw.tail))⟩
   exact absurd rfl h9
  exact absurd rfl h8
 exact absurd rfl h7
end
section
open Go.ChangeShapes Go.WideShapes Go.RowKit
theorem Rd.append {w : World} {b o : Nat} {xs ys : List Value} (h1 : Rd w ⟨b, o, none⟩ xs) (h2 : Rd w ⟨b, o + xs.length, none⟩ ys) : Rd w ⟨b, o, none⟩ (xs ++ ys) := fun j u hu => by
 rw [List.getElem?_append] at hu
 split at hu
 ·exact h1 j u hu
 rename_i hj
 have := h2 (j - xs.length) u hu
 rw [add_lit] at this ⊢
 rwa [show o + xs.length + (j - xs.length) = o + j by omega] at this
theorem Rd.rows {w : World} {b o z : Nat} (f : Nat → List Value) : ∀ n, (∀ i, i < n → (f i).length = z ∧ Rd w ⟨b, o + i * z, none⟩ (f i)) → Rd w ⟨b, o, none⟩ ((List.range n).map f).flatten ∧ ((List.range n).map f).flatten.length = n * z
 | 0, _ => ⟨Rd.nil, by simp⟩
 | n + 1, h => by
  obtain ⟨h1, h2⟩ := Rd.rows f n fun i hi => h i (by omega)
  obtain ⟨h3, h4⟩ := h n (by omega)
  rw [List.range_succ, List.map_append, List.flatten_append]
  refine ⟨h1.append (by rw [h2]; simpa using h4), ?_⟩
  simp only [List.length_append, h2, List.map_cons, List.map_nil, List.flatten_cons, List.flatten_nil, List.append_nil, h3, Nat.add_mul, Nat.one_mul]
theorem cells_get {w : World} {a : Addr} {n : Nat} {cs : List Value} (h : w.cells? 0 a n = some cs) : cs.length = n ∧ ∀ i, i < n → w.cell? (a.add i) = cs[i]? := by
 unfold World.cells? at h
 rw [if_pos (Nat.zero_le _)] at h
 exact ⟨by simpa using mapM_some_length h, fun i hi => mapM_some_get h i i (by simp [hi])⟩
section
variable {H : Type} {enc : TypeId × Value → H} {P : Program} {w : World} {n : Nat} {cs : List Value} {x : DataW H × List MemPlace} {t : TypeId}
theorem open_slice {e : TypeId} {z k : Nat} (ht : P.underlying t = some (.slice e)) (hz : P.cellsOf e = z) (hz0 : 0 < z) (hk : P.bytesOf e = k) (h : DataW.trod enc P w 0 (fun _ => true) true n t cs = some x) (hwt : ∀ q ∈ DataW.weights P t x.1, q ≤ reachBytes) :
  ∃ (v : Value) (rows : List (List Value)), cs = [v] ∧ rows.length * k ≤ reachBytes ∧
   (((∃ a, v = .slice a 0 0) ∧ rows = []) ∨ ∃ b o cap, v = .slice (some ⟨b, o, none⟩) rows.length cap ∧ rows.length ≤ cap ∧ Rd w ⟨b, o, none⟩ rows.flatten) ∧
   ∀ r ∈ rows, ∃ m y, DataW.trod enc P w 0 (fun _ => true) true m e r = some y ∧ ∀ q ∈ DataW.weights P e y.1, q ≤ reachBytes := by
 rcases DataW.trod_slice ht h with ⟨rfl, rfl⟩ | ⟨a, len, cap, elems, rest, m, rfl, rfl, rfl, _, hlc, hcm, hel, hget, hrest, _⟩
 ·exact ⟨_, [], rfl, by simp, .inl ⟨⟨_, rfl⟩, rfl⟩, by simp⟩
 obtain ⟨hrl, hrget⟩ := hrest rfl
 rw [hz] at hget hrget
 simp only [DataW.weights, ht, hk, List.length_map, List.mem_cons, List.mem_append] at hwt
 have hall : ∀ (y : DataW H × List MemPlace), y ∈ elems → ∀ q ∈ DataW.weights P e y.1, q ≤ reachBytes := fun y hy q hq => by
  refine hwt q (.inr (.inl ?_))
  have gen : ∀ l : List (DataW H), y.1 ∈ l → q ∈ DataW.weightsAll P e l := by
   intro l
   induction l with
   | nil => intro h; cases h
   | cons d l ih =>
    intro h
    rw [DataW.weightsAll, List.mem_append]
    rcases List.mem_cons.1 h with h | h
    ·subst h; exact .inl hq
    exact .inr (ih h)
  exact gen _ (List.mem_map_of_mem hy)
 by_cases hc : cap = 0
 ·have : len = 0 := by omega
  subst hc; subst this
  exact ⟨_, [], rfl, by simp, .inl ⟨⟨_, rfl⟩, rfl⟩, by simp⟩
 have hfirst : ∃ c0, w.cells? 0 (a.add (0 * z)) z = some c0 := by
  by_cases hl : 0 < len
  ·have h1 := hget 0 hl
   have : 0 < elems.length := by omega
   rw [List.getElem?_eq_getElem this] at h1
   obtain ⟨c0, h2, _⟩ := Option.bind_eq_some_iff.1 h1
   exact ⟨c0, h2⟩
  have hl0 : len = 0 := by omega
  have h1 := hrget 0 (by omega)
  have : 0 < rest.length := by omega
  rw [List.getElem?_eq_getElem this] at h1
  obtain ⟨c0, h2, _⟩ := Option.bind_eq_some_iff.1 h1
  rw [hl0] at h2
  exact ⟨c0, h2⟩
 obtain ⟨b, o, spot⟩ := a
 have hsp : spot = none := by
  obtain ⟨c0, h0⟩ := hfirst
  obtain ⟨h1, h2⟩ := cells_get h0
  have h3 := h2 0 hz0
  have : 0 < c0.length := by omega
  rw [List.getElem?_eq_getElem this] at h3
  simpa [Addr.add] using World.cell?_spot h3
 subst hsp
 have hrow : ∀ i, i < len → ∃ r, w.cells? 0 (Addr.add ⟨b, o, none⟩ (i * z)) z = some r ∧ ∃ y, y ∈ elems ∧ DataW.trod enc P w 0 (fun _ => true) true m e r = some y := fun i hi => by
  have h1 := hget i hi
  have hi' : i < elems.length := by omega
  rw [List.getElem?_eq_getElem hi'] at h1
  obtain ⟨r, h2, h3⟩ := Option.bind_eq_some_iff.1 h1
  exact ⟨r, h2, _, List.getElem_mem hi', h3⟩
 let f : Nat → List Value := fun i => (w.cells? 0 (Addr.add ⟨b, o, none⟩ (i * z)) z).getD []
 have hf : ∀ i, i < len → (f i).length = z ∧ Rd w ⟨b, o + i * z, none⟩ (f i) := fun i hi => by
  obtain ⟨r, h1, _⟩ := hrow i hi
  have hfi : f i = r := by simp only [f, h1, Option.getD_some]
  obtain ⟨h2, h3⟩ := cells_get h1
  rw [hfi]
  refine ⟨h2, fun j u hu => ?_⟩
  have hj : j < z := by
   rcases Nat.lt_or_ge j z with h | h
   ·exact h
   rw [List.getElem?_eq_none (by omega)] at hu; cases hu
  have := (h3 j hj).trans hu
  rwa [add_lit] at this
 refine ⟨_, (List.range len).map f, rfl, ?_, .inr ⟨b, o, cap, by simp, by simpa using hlc, (Rd.rows f len hf).1⟩, fun r hr => ?_⟩
 ·have := hwt _ (.inl rfl)
  rw [List.length_map, List.length_range, ← hel]
  exact Nat.le_trans (Nat.mul_le_mul_right _ (Nat.le_add_right _ _)) this
 obtain ⟨i, hi, rfl⟩ := List.mem_map.1 hr
 obtain ⟨r, h1, y, hy, h2⟩ := hrow i (List.mem_range.1 hi)
 exact ⟨m, y, by simpa [f, h1] using h2, hall y hy⟩
theorem pull {α : Type} {f : α → List Value} {Q : α → Prop} : ∀ (rows : List (List Value)), (∀ r ∈ rows, ∃ c, r = f c ∧ Q c) → ∃ l : List α, rows = l.map f ∧ ∀ c ∈ l, Q c
 | [], _ => ⟨[], rfl, by simp⟩
 | r :: rows, h => by
  obtain ⟨c, rfl, hc⟩ := h r (List.mem_cons_self ..)
  obtain ⟨l, rfl, hl⟩ := pull rows fun r hr => h r (List.mem_cons_of_mem _ hr)
  exact ⟨c :: l, rfl, fun d hd => by
   rcases List.mem_cons.1 hd with h | h
   ·subst h; exact hc
   ·exact hl d h⟩
theorem open_bytes {e : TypeId} (ht : P.underlying t = some (.slice e)) (he : P.underlying e = some (.int .u8)) (hz : P.cellsOf e = 1) (hk : P.bytesOf e = 1) (h : DataW.trod enc P w 0 (fun _ => true) true n t cs = some x) (hwt : ∀ q ∈ DataW.weights P t x.1, q ≤ reachBytes) :
  ∃ (v : Value) (l : Bys), cs = [v] ∧ SlB v l w ∧ l.length ≤ 140737488351232 := by
 obtain ⟨v, rows, rfl, hb, hs, hr⟩ := open_slice ht hz (by decide) hk h hwt
 obtain ⟨l, rfl, -⟩ := pull (f := fun c : UInt8 => [bv c]) (Q := fun _ => True) rows fun r hm => by
  obtain ⟨m, y, h1, _⟩ := hr r hm
  obtain ⟨k, rfl, rfl, hwf⟩ := DataW.trod_int he h1
  have := bounds_u8 hwf
  refine ⟨UInt8.ofNat k.toNat, ?_, trivial⟩
  simp only [bv, List.cons.injEq, and_true, Value.int.injEq, true_and]
  have h2 : (UInt8.ofNat k.toNat).toNat = k.toNat % 2 ^ 8 := UInt8.toNat_ofNat'
  rw [h2]; omega
 have hfl : (l.map fun c : UInt8 => [bv c]).flatten = bys l := by
  clear hb hs hr
  induction l with
  | nil => rfl
  | cons c l ih => rw [List.map_cons, List.flatten_cons, ih]; rfl
 rw [List.length_map, hfl] at hs
 refine ⟨v, l, rfl, ?_, by simp [reachBytes] at hb; omega⟩
 rcases hs with ⟨ha, hl⟩ | hs
 ·exact .inl ⟨ha, by simpa using hl⟩
 exact .inr hs
end
theorem cell_old {G : Gh} {R : List Assn} {W w : World} {a : Addr} {u : Value} (hs : Sat G (Old W :: R) w) (h : W.cell? a = some u) : w.cell? a = some u := by
 cases hb : W.heap[a.block]? with
 | none => simp [World.cell?, hb] at h
 | some o =>
  have h1 := hs.old_head hb
  simp only [World.cell?, hb] at h
  simp only [World.cell?, h1]
  exact h
theorem Rd.old {W : World} {a : Addr} {cs : List Value} (h : Rd W a cs) : Knows [Old W] (fun w => Rd w a cs) := fun g w hs j u hu => cell_old hs (h j u hu)
theorem SlB.old {W : World} {v : Value} {l : Bys} (h : SlB v l W) : Knows [Old W] (SlB v l) := fun g w hs => by
 rcases h with h | ⟨b, o, cap, h1, h2, h3⟩
 ·exact .inl h
 exact .inr ⟨b, o, cap, h1, h2, h3.old.at hs⟩
theorem SlV.old {W : World} {v : Value} {l : List Value} (h : SlV v l W) : Knows [Old W] (SlV v l) := fun g w hs => by
 rcases h with h | ⟨b, o, cap, h1, h2, h3⟩
 ·exact .inl h
 exact .inr ⟨b, o, cap, h1, h2, h3.old.at hs⟩
theorem SlT.old {W : World} {z : Nat} {v : Value} {l : List (List Value)} (h : SlT z v l W) : Knows [Old W] (SlT z v l) := fun g w hs => by
 rcases h with h | ⟨b, o, cap, h1, h2, h3, h4⟩
 ·exact .inl h
 exact .inr ⟨b, o, cap, h1, h2, h3, h4.old.at hs⟩
section
variable {H : Type} {enc : TypeId × Value → H} {W W' : World} {n : Nat} {cs : List Value} {x : DataW H × List MemPlace}
theorem coI : Tryz.prog.cellsOf 3 = 1 := by kernel_rfl
theorem coB : Tryz.prog.cellsOf 55 = 1 := by kernel_rfl
theorem coU : Tryz.prog.cellsOf 5 = 1 := by kernel_rfl
theorem boU : Tryz.prog.bytesOf 5 = 1 := by kernel_rfl
theorem boI : Tryz.prog.bytesOf 3 = 8 := by kernel_rfl
theorem coT : Tryz.prog.cellsOf 62 = 3 := by kernel_rfl
theorem boT : Tryz.prog.bytesOf 62 = 24 := by kernel_rfl
theorem coIt : Tryz.prog.cellsOf 114 = 4 := by kernel_rfl
theorem boIt : Tryz.prog.bytesOf 114 = 64 := by kernel_rfl
theorem coP : Tryz.prog.cellsOf 75 = 5 := by kernel_rfl
theorem coN : Tryz.prog.cellsOf 77 = 6 := by kernel_rfl
theorem boN : Tryz.prog.bytesOf 77 = 80 := by kernel_rfl
theorem coSI : Tryz.prog.cellsOf 73 = 1 := by kernel_rfl
theorem coSN : Tryz.prog.cellsOf 23 = 1 := by kernel_rfl
theorem coST : Tryz.prog.cellsOf 24 = 1 := by kernel_rfl
theorem coSi : Tryz.prog.cellsOf 22 = 1 := by kernel_rfl
theorem kids : Kids Tryz.prog (· < Tryz.prog.types.size) := kids_rows (by kernel_rfl) (by kernel_rfl)
theorem full : ∀ t e, t < Tryz.prog.types.size → Tryz.prog.underlying t = some (.slice e) → 0 < Tryz.prog.cellsOf e := slices_full_of _ (by kernel_rfl)
theorem open_ints (h : DataW.trod enc Tryz.prog W 0 (fun _ => true) true n 22 cs = some x) (hwt : ∀ q ∈ DataW.weights Tryz.prog 22 x.1, q ≤ reachBytes) : ∃ (v : Value) (l : List Int), cs = [v] ∧ SlV v (ints l) W ∧ l.length ≤ 140737488355328 := by
 obtain ⟨v, rows, rfl, hb, hs, hr⟩ := open_slice U_sl_int coI (by decide) boI h hwt
 obtain ⟨l, rfl, -⟩ := pull (f := fun c : Int => [Value.int .i64 c]) (Q := fun _ => True) rows fun r hm => by
  obtain ⟨m, y, h1, _⟩ := hr r hm
  obtain ⟨k, rfl, rfl, hwf⟩ := DataW.trod_int U_int h1
  exact ⟨k, rfl, trivial⟩
 rw [← ints_flat, List.length_map] at hs
 refine ⟨v, l, rfl, ?_, by rw [List.length_map] at hb; simp [reachBytes] at hb; omega⟩
 rcases hs with ⟨ha, hl⟩ | ⟨b, o, cap, h1, h2, h3⟩
 ·exact .inl ⟨ha, by have := congrArg List.length hl; simp at this; simp [ints, this]⟩
 exact .inr ⟨b, o, cap, by rw [ints_length]; exact h1, by rw [ints_length]; exact h2, h3⟩
theorem slt_of {z : Nat} {v : Value} {rows : List (List Value)} (hz : ∀ r ∈ rows, r.length = z) (hs : ((∃ a, v = .slice a 0 0) ∧ rows = []) ∨ ∃ b o cap, v = .slice (some ⟨b, o, none⟩) rows.length cap ∧ rows.length ≤ cap ∧ Rd W ⟨b, o, none⟩ rows.flatten) : SlT z v rows W := by
 rcases hs with ⟨⟨a, h1⟩, h2⟩ | ⟨b, o, cap, h1, h2, h3⟩
 ·exact .inl ⟨a, h1, fun _ _ => rfl, h2⟩
 exact .inr ⟨b, o, cap, h1, h2, hz, h3⟩
theorem open_tree (h : DataW.trod enc Tryz.prog W 0 (fun _ => true) true n 62 cs = some x) : ∃ t : Tr, cs = treeC t := by
 obtain ⟨xs, m, rfl, rfl, hl, hxl, hf⟩ := DataW.trod_struct Tryz.underlying62 h
 have hl4 : cs.length = 3 := hl.trans coT
 match cs, hl4 with
 | [a, b, c], _ =>
  match xs, (show xs.length = 3 from hxl) with
  | [x0, x1, x2], _ =>
   have h0 : DataW.trod enc Tryz.prog W 0 (fun _ => true) true m 3 (([a, b, c].drop 0).take (Tryz.prog.cellsOf 3)) = some x0 := hf 0 _ rfl
   have h1 : DataW.trod enc Tryz.prog W 0 (fun _ => true) true m 3 (([a, b, c].drop 1).take (Tryz.prog.cellsOf 3)) = some x1 := hf 1 _ rfl
   have h2 : DataW.trod enc Tryz.prog W 0 (fun _ => true) true m 3 (([a, b, c].drop 2).take (Tryz.prog.cellsOf 3)) = some x2 := hf 2 _ rfl
   rw [coI] at h0 h1 h2
   simp only [List.drop_zero, List.drop_succ_cons, List.take_succ_cons, List.take_zero] at h0 h1 h2
   obtain ⟨i, hi, -, -⟩ := DataW.trod_int U_int h0
   obtain ⟨j, hj, -, -⟩ := DataW.trod_int U_int h1
   obtain ⟨k, hk, -, -⟩ := DataW.trod_int U_int h2
   simp only [List.cons.injEq, and_true] at hi hj hk
   subst hi; subst hj; subst hk
   exact ⟨⟨i, j, k⟩, rfl⟩
theorem open_trees (h : DataW.trod enc Tryz.prog W 0 (fun _ => true) true n 24 cs = some x) (hwt : ∀ q ∈ DataW.weights Tryz.prog 24 x.1, q ≤ reachBytes) : ∃ (v : Value) (l : List Tr), cs = [v] ∧ SlT 3 v (l.map treeC) W ∧ l.length ≤ 140737488355328 := by
 obtain ⟨v, rows, rfl, hb, hs, hr⟩ := open_slice U_sl_api_Tree coT (by decide) boT h hwt
 obtain ⟨l, rfl, -⟩ := pull (f := treeC) (Q := fun _ => True) rows fun r hm => by
  obtain ⟨m, y, h1, _⟩ := hr r hm
  obtain ⟨t, rfl⟩ := open_tree h1
  exact ⟨t, rfl, trivial⟩
 exact ⟨v, l, rfl, slt_of (fun r hr => by obtain ⟨t, -, rfl⟩ := List.mem_map.1 hr; rfl) hs, by rw [List.length_map] at hb; simp [reachBytes] at hb; omega⟩
theorem open_item (h : DataW.trod enc Tryz.prog W 0 (fun _ => true) true n 114 cs = some x) (hwt : ∀ q ∈ DataW.weights Tryz.prog 114 x.1, q ≤ reachBytes) : ∃ y : ItV, cs = y.cells ∧ y.Ok [Old W] := by
 obtain ⟨xs, m, rfl, rfl, hl, hxl, hf⟩ := DataW.trod_struct Tryz.underlying114 h
 have hu := Tryz.underlying114
 have hl4 : cs.length = 4 := hl.trans coIt
 match cs, hl4 with
 | [a, b, c, d], _ =>
  match xs, (show xs.length = 4 from hxl) with
  | [x0, x1, x2, x3], _ =>
   have h0 : DataW.trod enc Tryz.prog W 0 (fun _ => true) true m 55 (([a, b, c, d].drop 0).take (Tryz.prog.cellsOf 55)) = some x0 := hf 0 _ rfl
   have h1 : DataW.trod enc Tryz.prog W 0 (fun _ => true) true m 55 (([a, b, c, d].drop 1).take (Tryz.prog.cellsOf 55)) = some x1 := hf 1 _ rfl
   have h2 : DataW.trod enc Tryz.prog W 0 (fun _ => true) true m 3 (([a, b, c, d].drop 2).take (Tryz.prog.cellsOf 3)) = some x2 := hf 2 _ rfl
   have h3 : DataW.trod enc Tryz.prog W 0 (fun _ => true) true m 3 (([a, b, c, d].drop 3).take (Tryz.prog.cellsOf 3)) = some x3 := hf 3 _ rfl
   rw [coB] at h0 h1
   rw [coI] at h2 h3
   simp only [List.drop_zero, List.drop_succ_cons, List.take_succ_cons, List.take_zero] at h0 h1 h2 h3
   obtain ⟨i, hi, -, -⟩ := DataW.trod_int U_int h2
   obtain ⟨j, hj, -, -⟩ := DataW.trod_int U_int h3
   simp only [DataW.weights, hu, List.map_cons, List.map_nil, DataW.weightsEach, List.append_nil] at hwt
   obtain ⟨v, l, hv, hs, hb⟩ := open_bytes U_sl_uint8 U_uint8 coU boU h0 fun q hq => hwt q (by simp [hq])
   obtain ⟨v', l', hv', hs', hb'⟩ := open_bytes U_sl_uint8 U_uint8 coU boU h1 fun q hq => hwt q (by simp [hq])
   simp only [List.cons.injEq, and_true] at hi hj hv hv'
   subst hi; subst hj; subst hv; subst hv'
   exact ⟨⟨{ key := l, value := l', child := i, size := j }, a, b⟩, rfl, hs.old, hs'.old, by show l.length ≤ _; omega, by show l'.length ≤ _; omega⟩
theorem open_page (h : DataW.trod enc Tryz.prog W 0 (fun _ => true) true n 75 cs = some x) (hwt : ∀ q ∈ DataW.weights Tryz.prog 75 x.1, q ≤ reachBytes) : ∃ p : PgV, cs = p.cells ∧ p.Ok [Old W] := by
 obtain ⟨xs, m, rfl, rfl, hl, hxl, hf⟩ := DataW.trod_struct Tryz.underlying75 h
 have hu := Tryz.underlying75
 have hl4 : cs.length = 5 := hl.trans coP
 match cs, hl4 with
 | [a, b, c, d, e], _ =>
  match xs, (show xs.length = 5 from hxl) with
  | [x0, x1, x2, x3, x4], _ =>
   have h0 : DataW.trod enc Tryz.prog W 0 (fun _ => true) true m 3 (([a, b, c, d, e].drop 0).take (Tryz.prog.cellsOf 3)) = some x0 := hf 0 _ rfl
   have h1 : DataW.trod enc Tryz.prog W 0 (fun _ => true) true m 3 (([a, b, c, d, e].drop 1).take (Tryz.prog.cellsOf 3)) = some x1 := hf 1 _ rfl
   have h2 : DataW.trod enc Tryz.prog W 0 (fun _ => true) true m 73 (([a, b, c, d, e].drop 2).take (Tryz.prog.cellsOf 73)) = some x2 := hf 2 _ rfl
   have h3 : DataW.trod enc Tryz.prog W 0 (fun _ => true) true m 55 (([a, b, c, d, e].drop 3).take (Tryz.prog.cellsOf 55)) = some x3 := hf 3 _ rfl
   have h4 : DataW.trod enc Tryz.prog W 0 (fun _ => true) true m 3 (([a, b, c, d, e].drop 4).take (Tryz.prog.cellsOf 3)) = some x4 := hf 4 _ rfl
   rw [coB] at h3
   rw [coSI] at h2
   rw [coI] at h0 h1 h4
   simp only [List.drop_zero, List.drop_succ_cons, List.take_succ_cons, List.take_zero] at h0 h1 h2 h3 h4
   obtain ⟨i, hi, -, -⟩ := DataW.trod_int U_int h0
   obtain ⟨j, hj, -, -⟩ := DataW.trod_int U_int h1
   obtain ⟨k, hk, -, -⟩ := DataW.trod_int U_int h4
   simp only [DataW.weights, hu, List.map_cons, List.map_nil, DataW.weightsEach, List.append_nil] at hwt
   obtain ⟨v, rows, hv, hb, hs, hr⟩ := open_slice U_sl_api_Item coIt (by decide) boIt h2 fun q hq => hwt q (by simp [hq])
   obtain ⟨v', l', hv', hs', hb'⟩ := open_bytes U_sl_uint8 U_uint8 coU boU h3 fun q hq => hwt q (by simp [hq])
   obtain ⟨l, rfl, hok⟩ := pull (f := ItV.cells) (Q := fun y => y.Ok [Old W]) rows fun r hm => by
    obtain ⟨m, y, h1, h2⟩ := hr r hm
    exact open_item h1 h2
   simp only [List.cons.injEq, and_true] at hi hj hk hv hv'
   subst hi; subst hj; subst hk; subst hv; subst hv'
   refine ⟨⟨i, j, l, c, d, l', k⟩, rfl, ⟨(slt_of (fun r hr => by obtain ⟨t, -, rfl⟩ := List.mem_map.1 hr; rfl) hs).old, hok, ?_⟩, hs'.old, by show l'.length ≤ _; omega⟩
   rw [List.length_map] at hb; simp [reachBytes] at hb; show l.length ≤ _; omega
theorem open_numbered (h : DataW.trod enc Tryz.prog W 0 (fun _ => true) true n 77 cs = some x) (hwt : ∀ q ∈ DataW.weights Tryz.prog 77 x.1, q ≤ reachBytes) : ∃ p : Int × PgV, cs = numC p ∧ p.2.Ok [Old W] := by
 obtain ⟨xs, m, rfl, rfl, hl, hxl, hf⟩ := DataW.trod_struct Tryz.underlying77 h
 have hu := Tryz.underlying77
 have hl4 : cs.length = 6 := hl.trans coN
 match cs, hl4 with
 | [a, b, c, d, e, f], _ =>
  match xs, (show xs.length = 2 from hxl) with
  | [x0, x1], _ =>
   have h0 : DataW.trod enc Tryz.prog W 0 (fun _ => true) true m 3 (([a, b, c, d, e, f].drop 0).take (Tryz.prog.cellsOf 3)) = some x0 := hf 0 _ rfl
   have h1 : DataW.trod enc Tryz.prog W 0 (fun _ => true) true m 75 (([a, b, c, d, e, f].drop 1).take (Tryz.prog.cellsOf 75)) = some x1 := hf 1 _ rfl
   rw [coI] at h0
   rw [coP] at h1
   simp only [List.drop_zero, List.drop_succ_cons, List.take_succ_cons, List.take_zero] at h0 h1
   obtain ⟨i, hi, -, -⟩ := DataW.trod_int U_int h0
   simp only [DataW.weights, hu, List.map_cons, List.map_nil, DataW.weightsEach, List.append_nil] at hwt
   obtain ⟨p, hp, hpo⟩ := open_page h1 fun q hq => hwt q (by simp [hq])
   simp only [List.cons.injEq, and_true] at hi
   subst hi
   exact ⟨(i, p), by show _ = Value.int .i64 i :: p.cells; rw [← hp], hpo⟩
theorem open_list (h : DataW.trod enc Tryz.prog W 0 (fun _ => true) true n 23 cs = some x) (hwt : ∀ q ∈ DataW.weights Tryz.prog 23 x.1, q ≤ reachBytes) : ∃ (v : Value) (l : List (Int × PgV)), cs = [v] ∧ SlT 6 v (l.map numC) W ∧ ∀ y ∈ l, y.2.Ok [Old W] := by
 obtain ⟨v, rows, rfl, hb, hs, hr⟩ := open_slice U_sl_api_Numbered coN (by decide) boN h hwt
 obtain ⟨l, rfl, hok⟩ := pull (f := numC) (Q := fun y => y.2.Ok [Old W]) rows fun r hm => by
  obtain ⟨m, y, h1, h2⟩ := hr r hm
  exact open_numbered h1 h2
 exact ⟨v, l, rfl, slt_of (fun r hr => by obtain ⟨t, -, rfl⟩ := List.mem_map.1 hr; rfl) hs, hok⟩
theorem open_image {v : Value} {r : Reach} {b0 : Nat} (hv : Value.okWide Tryz.prog W r b0 26 v) (h : DataW.trod enc Tryz.prog W 0 (fun _ => true) true n 26 v.cells.toList = some x) (hwt : ∀ q ∈ DataW.weights Tryz.prog 26 x.1, q ≤ reachBytes) :
  ∃ (refs : Int) (vc vl vt : Value) (c : List Int) (l : List (Int × PgV)) (ts : List Tr), v = .agg #[.int .i64 refs, vc, vl, vt] ∧ Knows [Old W] (SlV vc (ints c)) ∧ Knows [Old W] (SlT 6 vl (l.map numC)) ∧ (∀ y ∈ l, y.2.Ok [Old W]) ∧ Knows [Old W] (SlT 3 vt (ts.map treeC)) ∧ ts.length ≤ 140737488355328 := by
 have hu := Tryz.underlying26
 obtain ⟨ca, rfl, _⟩ := okWide_struct hu hv
 obtain ⟨xs, m, rfl, rfl, hl, hxl, hf⟩ := DataW.trod_struct hu h
 have hl2 : ca.toList.length = 4 := hl.trans (by kernel_rfl)
 match hca : ca.toList, hl2 with
 | [a, b, c, d], _ =>
  have hcells : (Value.agg ca).cells.toList = [a, b, c, d] := hca
  match xs, (show xs.length = 4 from hxl) with
  | [x0, x1, x2, x3], _ =>
   have h0 : DataW.trod enc Tryz.prog W 0 (fun _ => true) true m 3 (((Value.agg ca).cells.toList.drop 0).take (Tryz.prog.cellsOf 3)) = some x0 := hf 0 _ rfl
   have h1 : DataW.trod enc Tryz.prog W 0 (fun _ => true) true m 22 (((Value.agg ca).cells.toList.drop 1).take (Tryz.prog.cellsOf 22)) = some x1 := hf 1 _ rfl
   have h2 : DataW.trod enc Tryz.prog W 0 (fun _ => true) true m 23 (((Value.agg ca).cells.toList.drop 2).take (Tryz.prog.cellsOf 23)) = some x2 := hf 2 _ rfl
   have h3 : DataW.trod enc Tryz.prog W 0 (fun _ => true) true m 24 (((Value.agg ca).cells.toList.drop 3).take (Tryz.prog.cellsOf 24)) = some x3 := hf 3 _ rfl
   rw [hcells, coI] at h0
   rw [hcells, coSi] at h1
   rw [hcells, coSN] at h2
   rw [hcells, coST] at h3
   simp only [List.drop_zero, List.drop_succ_cons, List.take_succ_cons, List.take_zero] at h0 h1 h2 h3
   obtain ⟨i, hi, -, -⟩ := DataW.trod_int U_int h0
   simp only [DataW.weights, hu, List.map_cons, List.map_nil, DataW.weightsEach, List.append_nil] at hwt
   obtain ⟨v1, l1, hv1, hs1, hb1⟩ := open_ints h1 fun q hq => hwt q (by simp [hq])
   obtain ⟨v2, l2, hv2, hs2, hok2⟩ := open_list h2 fun q hq => hwt q (by simp [hq])
   obtain ⟨v3, l3, hv3, hs3, hb3⟩ := open_trees h3 fun q hq => hwt q (by simp [hq])
   simp only [List.cons.injEq, and_true] at hi hv1 hv2 hv3
   subst hi; subst hv1; subst hv2; subst hv3
   refine ⟨i, b, c, d, l1, l2, l3, ?_, hs1.old, hs2.old, hok2, hs3.old, hb3⟩
   congr 1
   apply Array.ext'
   exact hca
theorem same_old {R : List Assn} {G : Gh} (hs : Sat G (Old W :: R) W') {p : MemPlace} (hp : p.block < W.heap.size) : W.sameAt W' p := by
 have hb : W'.heap[p.block]? = W.heap[p.block]? := by
  have h1 := Array.getElem?_eq_getElem hp
  rw [hs.old_head h1, h1]
 cases p with
 | cell b off => simp only [MemPlace.block] at hb; simp only [World.sameAt, World.cell?, hb]
 | map b => exact hb
theorem trodAll_carry {sp : Nat → Bool} : ∀ {ts : List TypeId} {vs : List Value} {ds : List (DataW H)} {ps : List MemPlace}, DataW.TrodAll enc Tryz.prog W 0 sp true ts vs ds ps → (∀ p ∈ ps, W.sameAt W' p) → DataW.TrodAll enc Tryz.prog W' 0 sp true ts vs ds ps
 | [], [], [], _, h, _ => h
 | _ :: _, _ :: _, _ :: _, _, ⟨p, q, ⟨n, hn⟩, h2, e⟩, hs =>
  ⟨p, q, ⟨n, DataW.trod_carry n _ _ _ hn fun x hx => hs x (by rw [e]; exact List.mem_append_left _ hx)⟩, trodAll_carry h2 fun x hx => hs x (by rw [e]; exact List.mem_append_right _ hx), e⟩
theorem post_true {f : Func} {s : ChangeSpec} {args : Array Value} {ds gs : List (DataW H)} {before : List MemPlace} (hW : DataW.Whole enc Tryz.prog f.params.toList s.vars false W args.toList ds gs before) (hv : s.vars = [])
  (hs : Sat (ghOf W) [Old W] W') (hr : f.resultTypes = #[4]) (hfn : s.fn H (ds ++ gs) = ⟨[.lit (.bool true)], ds, []⟩) (hp : ∀ t ∈ f.params.toList, t < Tryz.prog.types.size) :
  s.post enc Tryz.prog f false true false false W args (.bool true) W' := by
 have hW' := hW
 obtain ⟨p, q, hA, hV, rfl, _, _⟩ := hW
 have hV' : DataW.TrodVars enc Tryz.prog W (fun _ => true) [] gs q := by rw [hv] at hV; exact hV
 obtain ⟨rfl, rfl⟩ := trodVars_none hV'
 have hlt := DataW.TrodAll.lt hA
 refine ⟨ds, [], p ++ [], [], p, [], hW', ?_, ?_, ?_, ?_, fun h => by cases h⟩
 ·rw [hfn, hr]
  exact trodAll_mk1 (shut_bool Tryz.underlying4 true)
 ·rw [hfn]
  exact trodAll_carry (DataW.TrodAll.respare kids full hp hA fun x hx => by simpa using hlt x hx) fun x hx => same_old hs (hlt x hx)
 ·rw [hfn, hv]; rfl
 have hg := hs.1
 refine ⟨congrArg Gh.os hg, congrArg Gh.output hg, fun i hi => ?_⟩
 have h1 := Array.getElem?_eq_getElem hi
 have h2 := hs.old_head h1
 rw [h1, h2]
 split <;> simp_all
end
end
end Go.Proofs.YteifbglognfgdaaGreatDoor.X
