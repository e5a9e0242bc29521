/- The ground and the walks of this claim, part 5: XChk3 XChk4 XDoc XDoc2 XSound XWhole XWhole2 XLoad4 XCk XCk2 XCk3 XSpan4 XWithin XLeast XItems XScan XIt XGift XIt2 XPairs. -/
import Derived.Test.YteifbglognfgdaaGreatDoorZ4
namespace Go.Proofs.YteifbglognfgdaaGreatDoor.X
set_option linter.unusedVariables false
set_option linter.unusedSimpArgs false
set_option maxRecDepth 20000
set_option maxHeartbeats 8000000
structure Ks (rd : Int → Option Pg) (d : Nat) (s : List Int × Int) : Prop where
 lo : 0 ≤ s.2
 hi : s.2 + d ≤ 8 * s.1.length
 nd : s.1.Nodup
 th : ∀ n ∈ s.1, rd n ≠ none
theorem Ks.mono {rd : Int → Option Pg} {d d' : Nat} {s : List Int × Int} (h : Ks rd d s) (hd : d' ≤ d) : Ks rd d' s := ⟨h.lo, by have := h.hi; omega, h.nd, h.th⟩
theorem enterC_some {rd : Int → Option Pg} {met : List Int} {n : Int} {p : Pg} (h : enterC rd met n = some p) : n ∉ met ∧ rd n = some p := by
 unfold enterC at h
 split at h
 ·cases h
 exact ⟨by assumption, h⟩
theorem Ks.enter {rd : Int → Option Pg} {d : Nat} {s : List Int × Int} {n : Int} {p : Pg} (h : Ks rd d s) (he : enterC rd s.1 n = some p) : Ks rd (d + 8) (n :: s.1, s.2) := by
 obtain ⟨h1, h2⟩ := enterC_some he
 refine ⟨h.lo, ?_, List.nodup_cons.2 ⟨h1, h.nd⟩, fun j hj => ?_⟩
 ·have := h.hi; simp only [List.length_cons]; omega
 rcases List.mem_cons.1 hj with rfl | hj
 ·rw [h2]; simp
 exact h.th j hj
theorem Ks.chain {rd : Int → Option Pg} {d : Nat} {keys : Int} : ∀ {f : Nat} {left n : Int} {met : List Int}, Ks rd d (met, keys) → Ks rd d ((chainC rd f left n met).2, keys)
 | 0, _, _, _, h => h
 | f + 1, left, n, met, h => by
  rw [chainC]
  split
  ·exact h
  cases he : enterC rd met n with
  | none => exact h
  | some p =>
   have h1 : Ks rd d (n :: met, keys) := (h.enter he).mono (by omega)
   simp only
   split
   ·exact h1
   split
   ·exact h1
   exact Ks.chain h1
theorem Ks.item {rd : Int → Option Pg} {d : Nat} {s : List Int × Int} {x : It} {r : Rg} (h : Ks rd (d + 1) s) : Ks rd d (itemC rd x r s).2 := by
 have h1 : Ks rd d (s.1, s.2 + 1) := ⟨by have := h.lo; show 0 ≤ s.2 + 1; omega, by have := h.hi; show s.2 + 1 + (d : Int) ≤ 8 * (s.1.length : Int); omega, h.nd, h.th⟩
 unfold itemC
 split
 ·exact h.mono (by omega)
 split
 ·exact h1
 exact Ks.chain h1
theorem Ks.fold {α : Type} {rd : Int → Option Pg} {g : Nat → α → List Int × Int → Int × List Int × Int} {c : Nat} (hc : c ≤ 1) (hg : ∀ {d i x s}, Ks rd (d + c) s → Ks rd d (g i x s).2) : ∀ {l : List α} {i d : Nat} {s : List Int × Int}, Ks rd (d + l.length) s → Ks rd d (foldC g i l s).2
 | [], i, d, s, h => h
 | x :: l, i, d, s, h => by
  have h1 : Ks rd (d + l.length) (g i x s).2 := hg (h.mono (by simp only [List.length_cons]; omega))
  rw [foldC]
  split
  ·exact h1.mono (by omega)
  exact Ks.fold hc hg h1
theorem Ks.page {rd : Int → Option Pg} (hck : ∀ n p, rd n = some p → p.items.length ≤ 8) : ∀ {k : Nat} {d : Nat} {n least : Int} {r : Rg} {s : List Int × Int}, Ks rd d s → Ks rd d (pageC rd k n least r s).2 := by
 intro k
 induction k with
 | zero =>
  intro d n least r s h
  unfold pageC
  cases he : enterC rd s.1 n with
  | none => exact h
  | some p =>
   have h1 := h.enter he
   have hl := hck n p (enterC_some he).2
   simp only
   split
   ·exact h1.mono (by omega)
   split
   ·exact h1.mono (by omega)
   exact Ks.fold (c := 1) (Nat.le_refl _) (fun h => h.item) (h1.mono (by omega))
 | succ k ih =>
  intro d n least r s h
  unfold pageC
  cases he : enterC rd s.1 n with
  | none => exact h
  | some p =>
   have h1 := h.enter he
   have hl := hck n p (enterC_some he).2
   simp only
   split
   ·exact h1.mono (by omega)
   split
   ·exact h1.mono (by omega)
   exact Ks.fold (c := 0) (by omega) (fun h => ih h) (h1.mono (by omega))
theorem RvIs.met_le {rd : Int → Option Pg} {v : RvV} {S : List PgV} (h : RvIs rd v S) {met : List Int} (hn : met.Nodup) (hm : ∀ n ∈ met, rd n ≠ none) : met.length ≤ 65536 := by
 have h1 := nodup_le hn (m := (List.range v.c.length).map fun i : Nat => (i : Int) + 1) (fun n hx => by
  have h2 := cntP_in (h.th (hm n hx))
  exact List.mem_map.2 ⟨(n - 1).toNat, List.mem_range.2 (by omega), by omega⟩)
 rw [List.length_map, List.length_range] at h1
 have := h.len
 omega
theorem RvIs.items8 {rd : Int → Option Pg} {v : RvV} {S : List PgV} (h : RvIs rd v S) {n : Int} {p : Pg} (hp : rd n = some p) : p.items.length ≤ 8 := by
 obtain ⟨pg, -, -, -, h4, h5⟩ := h.yes n (h.th (by rw [hp]; simp))
 rw [hp] at h4
 cases h4
 exact (check_items h5).1
theorem leaf_size {p : Pg} (h : checkP p = 0) (hk : p.kind = 1) : ∀ x ∈ p.items, x.size ≤ 3840 := by
 have key : ∀ (l : List It) (i : Nat) (above : Bys), itsErr p.kind i above l = 0 → ∀ x ∈ l, x.size ≤ 3840 := by
  intro l
  induction l with
  | nil => intro i above _ x hx; cases hx
  | cons y l ih =>
   intro i above he x hx
   simp only [itsErr, fst_zero_iff] at he
   rcases List.mem_cons.1 hx with rfl | hx
   ·have h1 := he.1
    unfold itErr at h1
    simp only [fst_zero_iff] at h1
    have h2 := h1.2.2.1
    unfold valErr at h2
    rw [if_neg (by omega)] at h2
    simp only [fst_zero_iff] at h2
    have := (mst_zero (by decide)).1 h2.1
    omega
   exact ih _ _ he.2 x hx
 unfold checkP at h
 simp only [fst_zero_iff] at h
 exact key p.items 0 [] h.2.1
def stepC (rd : Int → Option Pg) : Nat → Pg → Rg → Nat → It → List Int × Int → Int × List Int × Int
 | 0, _, r, _, x, s => itemC rd x r s
 | k + 1, p, r, i, x, s => pageC rd k x.child 4 (meetR r (ownR p i)) s
theorem pageC_none {rd : Int → Option Pg} {k : Nat} {n least : Int} {r : Rg} {s : List Int × Int} (h : enterC rd s.1 n = none) : pageC rd k n least r s = (15, s) := by
 cases k <;> (unfold pageC; rw [h])
theorem pageC_some {rd : Int → Option Pg} {k : Nat} {n least : Int} {r : Rg} {s : List Int × Int} {p : Pg} (h : enterC rd s.1 n = some p) : pageC rd k n least r s = if wrongC k p then (15, n :: s.1, s.2) else if (p.items.length : Int) < least then (5, n :: s.1, s.2) else foldC (stepC rd k p r) 0 p.items (n :: s.1, s.2) := by
 cases k <;> (unfold pageC; rw [h]; rfl)
theorem Knows.over2 {A B C : Assn} {L : List Assn} {p : World → Prop} (h : Knows (A :: L) p) : Knows (A :: B :: C :: L) p := fun g w hw => by
 have hz := hw.b [B, C]
 exact (h.of sF).at hz
theorem RgV.Ok.over2 {r : RgV} {A B C : Assn} {L : List Assn} (h : r.Ok (A :: L)) : r.Ok (A :: B :: C :: L) := ⟨h.lo.over2, h.hi.over2, h.sl, h.sh⟩
def lsD (ro : Int) (k : Nat) : Int := if ro = 1 then (if k = 0 then 0 else 2) else 4
def CkPage (k : Nat) : Prop := ∀ {G : Gh} {L : List Assn} {w : World} {cq q mb nm mc : Nat} {keys n ro : Int} {v : RvV} {ml : List Bool} {met : List Int} {rd : Int → Option Pg} {S : List PgV} {r : RgV}, RvIs rd v S → Sat G (blk cq [.pointer (some ⟨q, 0, none⟩), .slice (some ⟨mb, 0, none⟩) nm mc, .int .i64 keys] 139 :: row 4 1 (.slice (some ⟨mb, 0, none⟩) nm mc) nm (bls ml) :: rvP q v (stO S :: L)) w → MetL v ml met → nm = v.c.length + 1 → Ks rd 0 (met, keys) → r.Ok (stO S :: L) →
 Calls Tryz.prog 60 #[.pointer (some ⟨cq, 0, none⟩), .int .i64 n, .int .i64 k, .agg r.cells.toArray, .bool (decide (ro = 1))] w (Ret fun u w' => ∃ ml', u = .int .i64 (pageC rd k n (lsD ro k) r.rg (met, keys)).1 ∧ MetL v ml' (pageC rd k n (lsD ro k) r.rg (met, keys)).2.1 ∧
  Sat G (blk cq [.pointer (some ⟨q, 0, none⟩), .slice (some ⟨mb, 0, none⟩) nm mc, .int .i64 (pageC rd k n (lsD ro k) r.rg (met, keys)).2.2] 139 :: row 4 1 (.slice (some ⟨mb, 0, none⟩) nm mc) nm (bls ml') :: rvP q v (stO S :: L)) w')
section
variable {G : Gh} {L R : List Assn} {w : World}
theorem ct_page_s {k : Nat} (hk : k ≤ 1000) (ih : ∀ j, k = j + 1 → CkPage j) {cq q mb nm mc : Nat} {keys n ro : Int} {v : RvV} {ml : List Bool} {met : List Int} {rd : Int → Option Pg} {S : List PgV} {r : RgV} (hI : RvIs rd v S) (hw : Sat G (blk cq [.pointer (some ⟨q, 0, none⟩), .slice (some ⟨mb, 0, none⟩) nm mc, .int .i64 keys] 139 :: row 4 1 (.slice (some ⟨mb, 0, none⟩) nm mc) nm (bls ml) :: rvP q v (stO S :: L)) w) (hm : MetL v ml met) (hnm : nm = v.c.length + 1) (hks : Ks rd 0 (met, keys)) (hr : r.Ok (stO S :: L)) :
  Calls Tryz.prog 60 #[.pointer (some ⟨cq, 0, none⟩), .int .i64 n, .int .i64 k, .agg r.cells.toArray, .bool (decide (ro = 1))] w (Ret fun u w' => ∃ ml', u = .int .i64 (pageC rd k n (lsD ro k) r.rg (met, keys)).1 ∧ MetL v ml' (pageC rd k n (lsD ro k) r.rg (met, keys)).2.1 ∧
   Sat G (blk cq [.pointer (some ⟨q, 0, none⟩), .slice (some ⟨mb, 0, none⟩) nm mc, .int .i64 (pageC rd k n (lsD ro k) r.rg (met, keys)).2.2] 139 :: row 4 1 (.slice (some ⟨mb, 0, none⟩) nm mc) nm (bls ml') :: rvP q v (stO S :: L)) w') := by
 obtain ⟨pb, pc, hpv⟩ := hI.pv (hw.b [blk q _ _, row 3 _ _ _ _, row 4 1 v.lv _ _, row 75 _ _ _ _])
 have hN := hI.len
 have hP := hI.plen
 have hsl : ∀ R, Knows (row 75 5 v.pv v.p.length (v.p.map PgV.cells).flatten :: R) (SlT 5 (.slice (some ⟨pb, 0, none⟩) v.p.length pc) (v.p.map PgV.cells)) := fun R => by
  rw [hpv]; exact (SlT.row (by simp) (pgs_z v.p)).head R
 refine calls_of_x (args := [_, _, _, _, _]) Tryz.func60 rfl Tryz.ntmps60 rfl rfl ?_
 refine z2 ?_
 refine x_box rfl rfl trivial rfl rfl hw rfl (fun w b8 hw => ?_)
 refine z7 ?_
 refine x_call rfl rfl trivial cal_ref14_check_enter rfl (ct_ck_enter (n := n) (met := met) hI (hw.b [blk cq _ _, row 4 1 (.slice (some ⟨mb, 0, none⟩) nm mc) _ _, blk q _ _, row 3 _ _ _ _, row 4 1 v.lv _ _, row 75 _ _ _ _]) hm hnm) rfl (fun w v16 hv => ?_)
 obtain ⟨ml2, rfl, hm2, hent, hw⟩ := hv
 refine x_notp rfl rfl trivial rfl ?_
 refine xl_nil ?_
 refine x_if rfl (fun h1 => ?_) (fun h1 => ?_)
 ·
  refine z5 ?_
  exact end1 rfl rfl rfl (by
 have he : enterC rd met n = none := Decidable.not_not.1 h1
 rw [pageC_none he]
 rw [he] at hm2
 exact ⟨ml2, rfl, hm2, (hw.b [blk b8 _ _]).tail⟩)
 obtain ⟨p, hp⟩ : ∃ p, enterC rd met n = some p := Option.ne_none_iff_exists'.1 (Decidable.not_not.1 h1)
 rw [hp] at hm2
 have hks2 := hks.enter hp
 obtain ⟨pg, hpg, hpS, hpm, rfl, hin, hck⟩ := hI.enter hp
 have hpr : (v.p.map PgV.cells)[(n - 1).toNat]? = some pg.cells := by rw [List.getElem?_map, hpg]; rfl
 rw [pageC_some hp]
 have hpl : pg.pg.items.length = pg.l.length := by simp [PgV.pg]
 have hp8 := (check_items hck).1
 obtain ⟨ia, ic, hs⟩ : ∃ ia ic, pg.s = .slice ia pg.l.length ic := by
  obtain ⟨ia, ic, hs, -, -⟩ := ((stO_ok hpS hpm pK).its.sl.at hw).form
  rw [List.length_map] at hs
  exact ⟨ia, ic, hs⟩
 refine z6 ?_
 refine lD (v := .pointer (some ⟨q, 0, none⟩)) one_p_coppiceref11_Vault hw ?_
 refine z2 ?_
 refine x_ld rfl rfl trivial rfl (Loads.blk1 (v := .slice (some ⟨pb, 0, none⟩) v.p.length pc) one_sl_api_Page hw pK (by rw [← hpv]; rfl)) ?_
 refine z2 ?_
 refine x_idx rfl rfl trivial U_sl_api_Page sz_api_Page rfl rfl ⟨by omega, by omega⟩ ?_
 refine x_ld rfl rfl trivial rfl (Loads.many (cs := pg.cells) many_api_Page rfl (((hsl _).of sF).at hw |>.at hpr)) ?_
 refine x_alloc rfl rfl trivial z_api_Page hw rfl (fun w b11 hw => ?_)
 refine x_stN (cs := pg.cells) (l' := pg.cells) rfl trivial rfl rfl many_api_Page rfl (ones_pg (stO_ok hpS hpm pK) hw) hw pK (by simp [PgV.cells]) rfl rfl (fun w hw => ?_)
 refine z7 ?_
 refine xl_and (l1 := [3, 4, 5, 6]) (l2 := [7, 8, 9, 10, 11, 12, 13, 14, 15, 16, 17, 18, 19, 20, 21]) rfl (d := 35) ((k : Int) = 0 ∧ ¬ pg.kind = 1) rfl ?_ ?_
 ·
  refine xl_split (d := 31) rfl (fun h2 => ?_) (fun h2 => ?_)
  ·
   refine z1 ?_
   refine lD (v := .int .i64 pg.kind) one_int hw ?_
   refine z3 ?_
   refine cQ ?_
   exact dC
  refine z5 ?_
  refine cQ ?_
  exact dC
 refine z1 ?_
 refine xl_and (l1 := [8, 9, 10, 11, 12, 13, 14, 15, 16, 17, 18, 19, 20, 21]) (l2 := []) rfl (d := 50) (((k : Int) = 0 ∧ ¬ pg.kind = 1) ∨ (0 < (k : Int) ∧ (¬ pg.kind = 2 ∨ ¬ pg.level = (k : Int)))) rfl ?_ ?_
 ·
  refine xl_split (d := 36) rfl (fun h3 => ?_) (fun h3 => ?_)
  ·
   refine z15 ?_
   refine cQ ?_
   exact dC
  refine z3 ?_
  refine xl_split (d := 39) rfl (fun h4 => ?_) (fun h4 => ?_)
  ·
   refine z1 ?_
   refine lD (v := .int .i64 pg.kind) one_int hw ?_
   refine z2 ?_
   refine xl_split (d := 43) rfl (fun h5 => ?_) (fun h5 => ?_)
   ·
    refine z4 ?_
    refine x_pickT rfl rfl ⟨_, rfl, rfl⟩ rfl rfl rfl ?_
    refine x_pickT rfl rfl ⟨_, rfl, rfl⟩ rfl rfl rfl ?_
    refine z2 ?_
    refine cQ ?_
    exact dC
   refine z1 ?_
   refine lD (v := .int .i64 pg.level) one_int hw ?_
   refine z2 ?_
   refine x_pickF rfl rfl ⟨_, rfl, rfl⟩ rfl rfl rfl ?_
   refine x_pickT rfl rfl ⟨_, rfl, rfl⟩ rfl rfl rfl ?_
   refine z2 ?_
   refine cQ ?_
   exact dC
  refine z9 ?_
  refine x_pickF rfl rfl ⟨_, rfl, rfl⟩ rfl rfl rfl ?_
  refine z2 ?_
  refine cQ ?_
  exact dC
 refine xl_nil ?_
 refine x_if rfl (fun h6 => ?_) (fun h6 => ?_)
 ·
  have hwr : wrongC k pg.pg := by
   unfold wrongC
   show if k = 0 then ¬ pg.kind = 1 else ¬ (pg.kind = 2 ∧ pg.level = (k : Int))
   split <;> omega
  refine z5 ?_
  exact end1 rfl rfl rfl (by
 rw [if_pos hwr]
 exact ⟨ml2, rfl, hm2, (hw.b [blk b11 _ _, blk b8 _ _, blk cq _ _, row 4 1 (.slice (some ⟨mb, 0, none⟩) nm mc) _ _, blk q _ _, row 3 _ _ _ _, row 4 1 v.lv _ _, row 75 _ _ _ _]).tail.tail⟩)
 have hwr : ¬ wrongC k pg.pg := by
  unfold wrongC
  show ¬ if k = 0 then ¬ pg.kind = 1 else ¬ (pg.kind = 2 ∧ pg.level = (k : Int))
  split <;> omega
 rw [if_neg hwr, hpl]
 refine z5 ?_
 refine x_notp rfl rfl trivial rfl ?_
 refine z1 ?_
 refine xl_and (l1 := [3, 4, 5, 6, 7]) (l2 := [8, 9, 10, 11, 12, 13, 14, 15, 16, 17, 18, 19, 20]) rfl (d := 58) (¬ ro = 1 ∧ (pg.l.length : Int) < 4) rfl ?_ ?_
 ·
  refine xl_split (d := 53) rfl (fun h7 => ?_) (fun h7 => ?_)
  ·
   refine z1 ?_
   refine x_ld rfl rfl ⟨_, rfl, rfl⟩ rfl (Loads.blk1 (v := .slice ia pg.l.length ic) one_sl_api_Item hw pK (by rw [← hs]; rfl)) ?_
   refine x_len rfl rfl ⟨_, rfl, rfl⟩ (by kernel_rfl) U_sl_api_Item rfl ?_
   refine z3 ?_
   refine cQ ?_
   exact dC
  refine z6 ?_
  refine cQ ?_
  exact dC
 refine z1 ?_
 refine xl_and (l1 := [9, 10, 11, 12, 13, 14, 15, 16, 17, 18, 19, 20]) (l2 := []) rfl (d := 71) ((¬ ro = 1 ∧ (pg.l.length : Int) < 4) ∨ (ro = 1 ∧ 0 < (k : Int) ∧ (pg.l.length : Int) < 2)) rfl ?_ ?_
 ·
  refine xl_split (d := 59) rfl (fun h8 => ?_) (fun h8 => ?_)
  ·
   refine z13 ?_
   refine cQ ?_
   exact dC
  refine z2 ?_
  refine xl_split (d := 61) rfl (fun h9 => ?_) (fun h9 => ?_)
  ·
   refine z2 ?_
   refine x_pickT rfl rfl ⟨_, rfl, rfl⟩ rfl rfl rfl ?_
   refine z1 ?_
   refine xl_split (d := 65) rfl (fun h10 => ?_) (fun h10 => ?_)
   ·
    refine z1 ?_
    refine x_ld rfl rfl ⟨_, rfl, rfl⟩ rfl (Loads.blk1 (v := .slice ia pg.l.length ic) one_sl_api_Item hw pK (by rw [← hs]; rfl)) ?_
    refine x_len rfl rfl ⟨_, rfl, rfl⟩ (by kernel_rfl) U_sl_api_Item rfl ?_
    refine z1 ?_
    refine x_pickT rfl rfl ⟨_, rfl, rfl⟩ rfl rfl rfl ?_
    refine z2 ?_
    refine cQ ?_
    exact dC
   refine z4 ?_
   refine x_pickF rfl rfl ⟨_, rfl, rfl⟩ rfl rfl rfl ?_
   refine z2 ?_
   refine cQ ?_
   exact dC
  refine z2 ?_
  refine x_pickF rfl rfl ⟨_, rfl, rfl⟩ rfl rfl rfl ?_
  refine z5 ?_
  refine x_pickF rfl rfl ⟨_, rfl, rfl⟩ rfl rfl rfl ?_
  refine z2 ?_
  refine cQ ?_
  exact dC
 refine xl_nil ?_
 refine x_if rfl (fun h11 => ?_) (fun h11 => ?_)
 ·
  refine z5 ?_
  exact end1 rfl rfl rfl (by
 rw [if_pos (by unfold lsD; split <;> (try split) <;> omega)]
 exact ⟨ml2, rfl, hm2, (hw.b [blk b11 _ _, blk b8 _ _, blk cq _ _, row 4 1 (.slice (some ⟨mb, 0, none⟩) nm mc) _ _, blk q _ _, row 3 _ _ _ _, row 4 1 v.lv _ _, row 75 _ _ _ _]).tail.tail⟩)
 rw [if_neg (by unfold lsD; split <;> (try split) <;> omega)]
 obtain ⟨fin, hfin⟩ : ∃ fin, fin = foldC (stepC rd k pg.pg r.rg) 0 pg.pg.items (n :: met, keys) := ⟨_, rfl⟩
 rw [← hfin]
 refine z7 ?_
 have hz := (hw.b [blk cq _ _, row 4 1 (.slice (some ⟨mb, 0, none⟩) nm mc) _ _, blk q _ _, row 3 _ _ _ _, row 4 1 v.lv _ _, row 75 _ _ _ _, stO S, blk b11 _ _, blk b8 _ _])
 clear hw
 have hw := hz
 clear hz
 refine x_loop (fun m e w => ∃ (i : Nat) (met' : List Int) (keys' : Int) (ml' : List Bool), i ≤ pg.l.length ∧ m = pg.l.length - i ∧ e = [(0, .pointer (some ⟨cq, 0, none⟩)), (2, .int .i64 k), (8, .pointer (some ⟨b8, 0, none⟩)), (11, .pointer (some ⟨b11, 0, none⟩)), (12, .int .i64 i)] ∧ (MetL v ml' met' ∧ Ks rd (8 - i) (met', keys') ∧ fin = foldC (stepC rd k pg.pg r.rg) i (pg.pg.items.drop i) (met', keys')) ∧ Sat G (blk cq [.pointer (some ⟨q, 0, none⟩), .slice (some ⟨mb, 0, none⟩) nm mc, .int .i64 keys'] 139 :: row 4 1 (.slice (some ⟨mb, 0, none⟩) nm mc) nm (bls ml') :: rvP q v (stO S :: blk b11 pg.cells 75 :: blk b8 r.cells 64 :: L)) w)
  (m := pg.l.length) (e₀ := [(0, .pointer (some ⟨cq, 0, none⟩)), (2, .int .i64 k), (8, .pointer (some ⟨b8, 0, none⟩)), (11, .pointer (some ⟨b11, 0, none⟩)), (12, .int .i64 (0 : Nat))]) sB
  ⟨0, n :: met, keys, ml2, Nat.zero_le _, rfl, rfl, ⟨hm2, hks2, hfin⟩, hw⟩ ?_
 rintro m e w ⟨i, met', keys', ml', hi, rfl, rfl, ⟨hml, hki, hfo⟩, hw⟩
 refine z5 ?_
 refine x_ld rfl rfl trivial rfl (Loads.blk1 (v := .slice ia pg.l.length ic) one_sl_api_Item hw pK (by rw [← hs]; rfl)) ?_
 refine z3 ?_
 refine x_if rfl (fun h12 => ?_) (fun h12 => ?_)
 ·
  have hi' : i < pg.l.length := by omega
  obtain ⟨x, hx⟩ : ∃ x, pg.l[i]? = some x := ⟨_, List.getElem?_eq_getElem hi'⟩
  have hxr : (pg.l.map ItV.cells)[i]? = some x.cells := by rw [List.getElem?_map, hx]; rfl
  have hxi : pg.pg.items[i]? = some x.it := by show (pg.l.map ItV.it)[_]? = _; rw [List.getElem?_map, hx]; rfl
  rw [drop_cons hxi, foldC] at hfo
  have hpo : pg.Ok (stO S :: L) := stO_ok hpS hpm .here
  have hxo := hpo.its.it x (List.mem_of_getElem? hx)
  have hil : Knows (stO S :: L) (SlT 4 (.slice ia pg.l.length ic) (pg.l.map ItV.cells)) := by rw [← hs]; exact hpo.its.sl
  have hil2 : ∀ R, Knows (stO S :: R) (SlT 4 (.slice ia pg.l.length ic) (pg.l.map ItV.cells)) := fun R => by rw [← hs]; exact (stO_ok (L := stO S :: R) hpS hpm .here).its.sl
  obtain ⟨ib, io, rfl⟩ := (((hil2 _).of sF).at hw).nn (by rw [List.length_map]; omega)
  have hml9 := hI.met_le hki.nd hki.th
  have hkl := hki.lo
  have hkh := hki.hi
  simp only at hkl hkh hml9
  refine z13 ?_
  refine x_if rfl (fun h13 => ?_) (fun h13 => ?_)
  ·
   obtain rfl : k = 0 := by omega
   have hk1 : pg.pg.kind = 1 := by
    refine Decidable.byContradiction fun h => hwr ?_
    unfold wrongC; rw [if_pos rfl]; exact h
   have hxs := leaf_size hck hk1 x.it (List.mem_of_getElem? hxi)
   refine x_draw [0, 1, 2, 3, 4, 5, 6, 7, 8] mixed (by kernel_rfl) ?_
   replace hw := hw.drawn (w.drawn + 1)
   refine z2 ?_
   refine x_ld rfl rfl trivial rfl (Loads.blk1 (v := .slice (some ⟨ib, io, none⟩) pg.l.length ic) one_sl_api_Item hw pK (by rw [← hs]; rfl)) ?_
   refine z1 ?_
   refine x_idx rfl rfl trivial U_sl_api_Item sz_api_Item rfl rfl ⟨by omega, by omega⟩ ?_
   refine x_ld rfl rfl trivial rfl (Loads.many (cs := x.cells) many_api_Item rfl (by have h := (((hil2 _).of sF).at hw).at hxr; rw [Int.toNat_natCast]; exact h)) ?_
   refine lA (l := r.cells) many_api_Range hw ?_
   refine x_call rfl rfl trivial cal_ref14_check_item rfl (ct_ref14_check_item (x := x) (r := r) hI hw hml hnm (by omega) ((stO_ok hpS hpm .here).its.it x (List.mem_of_getElem? hx)) (by omega) hr.over2) (by kernel_rfl) (fun w v88 hv => ?_)
   obtain ⟨ml3, rfl, hml3, hw⟩ := hv
   have hst : stepC rd 0 pg.pg r.rg i x.it (met', keys') = itemC rd x.it r.rg (met', keys') := rfl
   rw [hst] at hfo
   have hki3 : Ks rd (8 - (i + 1)) (itemC rd x.it r.rg (met', keys')).2 := Ks.item (hki.mono (by omega))
   obtain ⟨res, hres⟩ : ∃ res, res = itemC rd x.it r.rg (met', keys') := ⟨_, rfl⟩
   rw [← hres] at hfo hml3 hw hki3
   rw [← hres]
   refine z7 ?_
   refine x_if rfl (fun h14 => ?_) (fun h14 => ?_)
   ·
    refine z6 ?_
    exact end1 rfl rfl rfl (by
 rw [if_pos h14] at hfo
 rw [hfo]
 exact ⟨ml3, rfl, hml3, (hw.b [blk b11 _ _, blk b8 _ _, blk cq _ _, row 4 1 (.slice (some ⟨mb, 0, none⟩) nm mc) _ _, blk q _ _, row 3 _ _ _ _, row 4 1 v.lv _ _, row 75 _ _ _ _]).tail.tail⟩)
   refine z6 ?_
   rw [if_neg h14] at hfo
   exact ⟨pg.l.length - (i + 1), by omega, [(0, _), (2, _), (8, _), (11, _), (12, .int .i64 (i + 1 : Nat))], sB, i + 1, res.2.1, res.2.2, ml3, by omega, rfl, rfl, ⟨hml3, hki3, hfo⟩, hw⟩
  obtain ⟨j, rfl⟩ : ∃ j, k = j + 1 := ⟨k - 1, by omega⟩
  refine x_draw [0, 1, 2, 3, 4, 5, 6, 7, 8, 9, 10, 11, 12, 13, 14] mixed (by kernel_rfl) ?_
  replace hw := hw.drawn (w.drawn + 1)
  refine z2 ?_
  refine x_ld rfl rfl trivial rfl (Loads.blk1 (v := .slice (some ⟨ib, io, none⟩) pg.l.length ic) one_sl_api_Item hw pK (by rw [← hs]; rfl)) ?_
  refine z1 ?_
  refine x_idx rfl rfl trivial U_sl_api_Item sz_api_Item rfl rfl ⟨by omega, by omega⟩ ?_
  refine x_fldk rfl rfl trivial fo_api_Item_2 rfl ?_
  refine x_ld rfl rfl trivial rfl (Loads.one (v := .int .i64 x.it.child) one_int ((((hil2 _).of sF).at hw).cell (j := 2) hxr rfl)) ?_
  refine z2 ?_
  have hcast : ((j + 1 : Nat) : Int) - 1 = j := by omega
  rw [hcast]
  refine lA (l := pg.cells) many_api_Page hw ?_
  refine z1 ?_
  refine lA (l := r.cells) many_api_Range hw ?_
  refine x_callP rfl rfl trivial cal_ref14_Within rfl (ct_ref14_Within (p := pg) (i := i) (r := r) hw (stO_ok hpS hpm pK) (hr.over2.of sF) hi' (by omega)) (fun w v101 hv q' hq => ?_) (fun w v101 hv => ?_)
  ·
   obtain ⟨r', rfl, hr', hr2, hr3, hr1, hw⟩ := hv
   have hq := pend_mem (l := [6, 2]) (by kernel_rfl) hq
   simp only [List.mem_cons, List.not_mem_nil, or_false] at hq
   rcases hq with rfl | rfl
   ·exact chk_ld rfl rfl rfl (Loads.one (v := .int .i64 x.it.child) one_int ((((hil2 _).of sF).at hw).cell (j := 2) hxr rfl))
   exact chk_ld rfl rfl rfl (Loads.blk1 (v := .slice (some ⟨ib, io, none⟩) pg.l.length ic) one_sl_api_Item hw pK (by rw [← hs]; rfl))
  obtain ⟨r', rfl, hr', hr2, hr3, hr1, hw⟩ := hv
  simp only [rgParts, List.cons_append, List.nil_append] at hw
  have hz := hw.b [blk cq _ _, row 4 1 (.slice (some ⟨mb, 0, none⟩) nm mc) _ _, blk q _ _, row 3 _ _ _ _, row 4 1 v.lv _ _, row 75 _ _ _ _, stO S, row 5 1 r'.lv _ _, row 5 1 r'.hv _ _]
  refine x_call rfl rfl trivial cal_ref14_check_page rfl (@ih j rfl G _ _ cq q mb nm mc keys' x.it.child 0 v ml' met' rd S r' hI hz hml hnm (hki.mono (Nat.zero_le _)) (rgParts_ok hr2 hr3 pK pK)) (by kernel_rfl) (fun w v102 hv => ?_)
  obtain ⟨ml3, rfl, hml3, hw⟩ := hv
  rw [hr', show lsD 0 j = 4 from rfl] at hml3 hw
  rw [hr', show lsD 0 j = 4 from rfl]
  have hst : stepC rd (j + 1) pg.pg r.rg i x.it (met', keys') = pageC rd j x.it.child 4 (meetR r.rg (ownR pg.pg i)) (met', keys') := rfl
  rw [hst] at hfo
  have hki3 : Ks rd (8 - (i + 1)) (pageC rd j x.it.child 4 (meetR r.rg (ownR pg.pg i)) (met', keys')).2 := Ks.page (fun n p hnp => hI.items8 hnp) (hki.mono (by omega))
  obtain ⟨res, hres⟩ : ∃ res, res = pageC rd j x.it.child 4 (meetR r.rg (ownR pg.pg i)) (met', keys') := ⟨_, rfl⟩
  rw [← hres] at hfo hml3 hw hki3
  rw [← hres]
  refine z7 ?_
  refine x_if rfl (fun h15 => ?_) (fun h15 => ?_)
  ·
   refine z6 ?_
   exact end1 rfl rfl rfl (by
 rw [if_pos h15] at hfo
 rw [hfo]
 exact ⟨ml3, rfl, hml3, (hw.b [row 5 1 r'.lv _ _, row 5 1 r'.hv _ _, blk b11 _ _, blk b8 _ _, blk cq _ _, row 4 1 (.slice (some ⟨mb, 0, none⟩) nm mc) _ _, blk q _ _, row 3 _ _ _ _, row 4 1 v.lv _ _, row 75 _ _ _ _]).tail.tail.tail.tail⟩)
  refine z6 ?_
  rw [if_neg h15] at hfo
  exact ⟨pg.l.length - (i + 1), by omega, [(0, _), (2, _), (8, _), (11, _), (12, .int .i64 (i + 1 : Nat))], sB, i + 1, res.2.1, res.2.2, ml3, by omega, rfl, rfl, ⟨hml3, hki3, hfo⟩, (hw.b [row 5 1 r'.lv _ _, row 5 1 r'.hv _ _, blk cq _ _, row 4 1 (.slice (some ⟨mb, 0, none⟩) nm mc) _ _, blk q _ _, row 3 _ _ _ _, row 4 1 v.lv _ _, row 75 _ _ _ _, stO S, blk b11 _ _, blk b8 _ _]).tail.tail⟩
 refine z6 ?_
 exact end1 rfl rfl rfl (by
 have hie : i = pg.l.length := by omega
 rw [List.drop_eq_nil_of_le (by omega), foldC] at hfo
 rw [hfo]
 exact ⟨ml', rfl, hml, (hw.b [blk b11 _ _, blk b8 _ _, blk cq _ _, row 4 1 (.slice (some ⟨mb, 0, none⟩) nm mc) _ _, blk q _ _, row 3 _ _ _ _, row 4 1 v.lv _ _, row 75 _ _ _ _]).tail.tail⟩)
theorem ct_ref14_check_page (k : Nat) (hk : k ≤ 1000) : CkPage k := by
 induction k with
 | zero =>
  intro G L w cq q mb nm mc keys n ro v ml met rd S r hI hw hm hnm hks hr
  exact ct_page_s hk (fun j h => absurd h (by omega)) hI hw hm hnm hks hr
 | succ k ih =>
  intro G L w cq q mb nm mc keys n ro v ml met rd S r hI hw hm hnm hks hr
  have h0 : ∀ j, k + 1 = j + 1 → CkPage j := by
   intro j h
   have : j = k := by omega
   rw [this]
   exact @ih (by omega)
  exact ct_page_s hk h0 hI hw hm hnm hks hr
end
def rgAll : Rg := ⟨[], [], true⟩
def treeNone (t : Tr) : Prop := t.root = 0 ∧ t.height = 0 ∧ t.items = 0
instance (t : Tr) : Decidable (treeNone t) := by unfold treeNone; infer_instance
def treeForm (t : Tr) : Prop := ¬ t.root = 0 ∧ 1 ≤ t.height ∧ t.height ≤ 12 ∧ 1 ≤ t.items
instance (t : Tr) : Decidable (treeForm t) := by unfold treeForm; infer_instance
def chkT (rd : Int → Option Pg) (t : Tr) : Int :=
 if treeNone t then 0 else if ¬ treeForm t then 5 else
 let c := pageC rd (t.height - 1).toNat t.root (lsD 1 (t.height - 1).toNat) rgAll ([], 0)
 if c.1 ≠ 0 then c.1 else if ¬ c.2.2 = t.items then 4 else 0
section
variable {G : Gh} {L R : List Assn} {w : World}
theorem ct_ref14_Check {q : Nat} {v : RvV} {rd : Int → Option Pg} {S : List PgV} {t : Tr} (hI : RvIs rd v S) (hw : Sat G (rvP q v (stO S :: L)) w) :
  Calls Tryz.prog 30 #[.pointer (some ⟨q, 0, none⟩), .agg (treeC t).toArray] w (Ret fun u w' => u = .int .i64 (chkT rd t) ∧ Sat G (rvP q v (stO S :: L)) w') := by
 refine calls_of_x (args := [_, _]) Tryz.func30 rfl Tryz.ntmps30 rfl rfl ?_
 refine z2 ?_
 refine x_box rfl rfl trivial rfl rfl hw rfl (fun w b3 hw => ?_)
 refine z6 ?_
 refine lD (v := .int .i64 t.root) one_int hw ?_
 refine z2 ?_
 refine xl_and (l1 := [4, 5, 6, 7]) (l2 := [8, 9, 10, 11, 12]) rfl (d := 14) (t.root = 0 ∧ t.height = 0) rfl ?_ ?_
 ·
  refine xl_split (d := 10) rfl (fun h1 => ?_) (fun h1 => ?_)
  ·
   refine z1 ?_
   refine lD (v := .int .i64 t.height) one_int hw ?_
   refine z3 ?_
   refine cQ ?_
   exact dC
  refine z5 ?_
  refine cQ ?_
  exact dC
 refine z1 ?_
 refine xl_and (l1 := [9, 10, 11, 12]) (l2 := []) rfl (d := 19) (t.root = 0 ∧ t.height = 0 ∧ t.items = 0) rfl ?_ ?_
 ·
  refine xl_split (d := 15) rfl (fun h2 => ?_) (fun h2 => ?_)
  ·
   refine z1 ?_
   refine lD (v := .int .i64 t.items) one_int hw ?_
   refine z3 ?_
   refine cQ ?_
   exact dC
  refine z5 ?_
  refine cQ ?_
  exact dC
 refine xl_nil ?_
 refine x_if rfl (fun h3 => ?_) (fun h3 => ?_)
 ·
  refine z5 ?_
  exact end1 rfl rfl rfl (by
 have e : chkT rd t = 0 := by unfold chkT; rw [if_pos (show treeNone t from h3)]
 rw [e]
 exact ⟨rfl, (hw.b [blk b3 _ _, blk q _ _, row 3 _ _ _ _, row 4 _ _ _ _, row 75 _ _ _ _]).tail⟩)
 refine z5 ?_
 refine lD (v := .int .i64 t.root) one_int hw ?_
 refine z2 ?_
 refine xl_and (l1 := [4, 5, 6, 7]) (l2 := [8, 9, 10, 11, 12, 13, 14, 15, 16, 17]) rfl (d := 27) (t.root = 0 ∨ t.height < 1) rfl ?_ ?_
 ·
  refine xl_split (d := 23) rfl (fun h4 => ?_) (fun h4 => ?_)
  ·
   refine z5 ?_
   refine cQ ?_
   exact dC
  refine z1 ?_
  refine lD (v := .int .i64 t.height) one_int hw ?_
  refine z3 ?_
  refine cQ ?_
  exact dC
 refine z1 ?_
 refine xl_and (l1 := [9, 10, 11, 12]) (l2 := [13, 14, 15, 16, 17]) rfl (d := 32) (t.root = 0 ∨ t.height < 1 ∨ 12 < t.height) rfl ?_ ?_
 ·
  refine xl_split (d := 28) rfl (fun h5 => ?_) (fun h5 => ?_)
  ·
   refine z5 ?_
   refine cQ ?_
   exact dC
  refine z1 ?_
  refine lD (v := .int .i64 t.height) one_int hw ?_
  refine z3 ?_
  refine cQ ?_
  exact dC
 refine z1 ?_
 refine xl_and (l1 := [14, 15, 16, 17]) (l2 := []) rfl (d := 37) (t.root = 0 ∨ t.height < 1 ∨ 12 < t.height ∨ t.items < 1) rfl ?_ ?_
 ·
  refine xl_split (d := 33) rfl (fun h6 => ?_) (fun h6 => ?_)
  ·
   refine z5 ?_
   refine cQ ?_
   exact dC
  refine z1 ?_
  refine lD (v := .int .i64 t.items) one_int hw ?_
  refine z3 ?_
  refine cQ ?_
  exact dC
 refine xl_nil ?_
 refine x_if rfl (fun h7 => ?_) (fun h7 => ?_)
 ·
  refine z5 ?_
  exact end1 rfl rfl rfl (by
 have e : chkT rd t = 5 := by unfold chkT; rw [if_neg (show ¬ treeNone t from h3), if_pos (fun h => by unfold treeForm at h; omega)]
 rw [e]
 exact ⟨rfl, (hw.b [blk b3 _ _, blk q _ _, row 3 _ _ _ _, row 4 _ _ _ _, row 75 _ _ _ _]).tail⟩)
 have htf : treeForm t := by unfold treeForm; omega
 have e : chkT rd t = if (pageC rd (t.height - 1).toNat t.root (lsD 1 (t.height - 1).toNat) rgAll ([], 0)).1 ≠ 0 then (pageC rd (t.height - 1).toNat t.root (lsD 1 (t.height - 1).toNat) rgAll ([], 0)).1 else if ¬ (pageC rd (t.height - 1).toNat t.root (lsD 1 (t.height - 1).toNat) rgAll ([], 0)).2.2 = t.items then 4 else 0 := by
  unfold chkT; rw [if_neg (show ¬ treeNone t from h3), if_neg (not_not_intro htf)]
 refine z5 ?_
 refine x_call rfl rfl trivial cal_ref11_Vault_Len rfl (ct_ref11_Vault_Len (q := q) (v := v) (hw.b [blk q _ _, row 3 _ _ _ _, row 4 _ _ _ _, row 75 _ _ _ _])) rfl (fun w v40 hv => ?_)
 obtain ⟨rfl, hw⟩ := hv
 have hN := hI.len
 refine z1 ?_
 refine x_mks rfl rfl trivial U_sl_bool sz_bool by_bool z_bool rfl rfl ⟨by omega, by omega⟩ (by omega) (by omega) hw rfl (fun w b42 hw => ?_)
 have hnm : ((v.c.length : Int) + 1).toNat = v.c.length + 1 := by omega
 rw [hnm] at hw
 rw [hnm]
 have hbl : rep (v.c.length + 1) (Value.bool false) = bls (List.replicate (v.c.length + 1) false) ++ [] := by simp [bls, rep]
 rw [hbl] at hw
 have hw := row_mk (z := 1) (m := v.c.length + 1) (cap := v.c.length + 1) hw (by simp [bls]) (Nat.le_refl _) (by simp only [maxLen]; omega) (by simp [bls])
 refine x_build (v := .agg #[.pointer (some ⟨q, 0, none⟩), .slice (some ⟨b42, 0, none⟩) (v.c.length + 1) (v.c.length + 1), .int .i64 0]) rfl rfl trivial rfl (fun w => by kernel_rfl) ?_
 refine x_box rfl rfl trivial rfl rfl hw rfl (fun w b44 hw => ?_)
 refine z6 ?_
 refine lD (v := .int .i64 t.root) one_int hw ?_
 refine z1 ?_
 refine lD (v := .int .i64 t.height) one_int hw ?_
 refine z1 ?_
 refine x_build (v := .agg #[.slice none 0 0, .slice none 0 0, .bool true]) rfl rfl trivial rfl (fun w => by kernel_rfl) ?_
 obtain ⟨k, hk⟩ : ∃ k : Nat, t.height - 1 = (k : Int) := ⟨(t.height - 1).toNat, by omega⟩
 have hkt : (t.height - 1).toNat = k := by omega
 rw [hkt] at e
 rw [hk]
 have hz := hw.b [blk b44 _ _, row 4 1 (.slice (some ⟨b42, 0, none⟩) _ _) _ _, blk q _ _, row 3 _ _ _ _, row 4 1 v.lv _ _, row 75 _ _ _ _, stO S]
 have hml : MetL v (List.replicate (v.c.length + 1) false) [] := ⟨by simp, fun n hn => by
    have := cntP_in hn
    rw [List.getD_eq_getElem?_getD, List.getElem?_replicate, if_pos (by omega)]; rfl⟩
 refine x_call rfl rfl trivial cal_ref14_check_page rfl (@ct_ref14_check_page k (by omega) G _ _ b44 q b42 _ _ 0 t.root 1 v _ [] rd S ⟨rgAll, .slice none 0 0, .slice none 0 0⟩ hI hz hml rfl ⟨by decide, by decide, List.nodup_nil, (fun n hn => by cases hn)⟩ ⟨nilB, nilB, small_nil, small_nil⟩) rfl (fun w v52 hv => ?_)
 obtain ⟨ml', rfl, hm', hw⟩ := hv
 obtain ⟨res, hres⟩ : ∃ res, res = pageC rd k t.root (lsD 1 k) rgAll ([], 0) := ⟨_, rfl⟩
 have hw : Sat G (blk b44 [.pointer (some ⟨q, 0, none⟩), .slice (some ⟨b42, 0, none⟩) (v.c.length + 1) (v.c.length + 1), .int .i64 res.2.2] 139 :: row 4 1 (.slice (some ⟨b42, 0, none⟩) (v.c.length + 1) (v.c.length + 1)) (v.c.length + 1) (bls ml') :: rvP q v (stO S :: blk b3 (treeC t) 62 :: L)) w := by rw [hres]; exact hw
 rw [← hres] at e
 rw [show pageC rd k t.root (lsD 1 k) (RgV.rg ⟨rgAll, .slice none 0 0, .slice none 0 0⟩) ([], 0) = res from hres.symm]
 refine z8 ?_
 refine x_if rfl (fun h8 => ?_) (fun h8 => ?_)
 ·
  refine z6 ?_
  exact end1 rfl rfl rfl (by
 rw [if_pos h8] at e
 rw [e]
 exact ⟨rfl, (hw.b [blk b44 _ _, row 4 1 (.slice (some ⟨b42, 0, none⟩) _ _) _ _, blk b3 _ _, blk q _ _, row 3 _ _ _ _, row 4 1 v.lv _ _, row 75 _ _ _ _]).tail.tail.tail⟩)
 rw [if_neg h8] at e
 refine z3 ?_
 refine x_draw [0, 1, 2, 3, 4, 5, 6] mixed (by kernel_rfl) ?_
 replace hw := hw.drawn (w.drawn + 1)
 refine z3 ?_
 refine lD (v := .int .i64 res.2.2) one_int hw ?_
 refine z1 ?_
 refine lD (v := .int .i64 t.items) one_int hw ?_
 refine z2 ?_
 refine x_if rfl (fun h9 => ?_) (fun h9 => ?_)
 ·
  refine z5 ?_
  exact end1 rfl rfl rfl (by
 rw [if_pos h9] at e
 rw [e]
 exact ⟨rfl, (hw.b [blk b44 _ _, row 4 1 (.slice (some ⟨b42, 0, none⟩) _ _) _ _, blk b3 _ _, blk q _ _, row 3 _ _ _ _, row 4 1 v.lv _ _, row 75 _ _ _ _]).tail.tail.tail⟩)
 refine z6 ?_
 exact end1 rfl rfl rfl (by
 rw [if_neg h9] at e
 rw [e]
 exact ⟨rfl, (hw.b [blk b44 _ _, row 4 1 (.slice (some ⟨b42, 0, none⟩) _ _) _ _, blk b3 _ _, blk q _ _, row 3 _ _ _ _, row 4 1 v.lv _ _, row 75 _ _ _ _]).tail.tail.tail⟩)
end
section
variable {G : Gh} {L R : List Assn} {w : World}
theorem ct_rv_Read {q : Nat} {v : RvV} {rd : Int → Option Pg} {S : List PgV} {n : Int} (hI : RvIs rd v S) (hw : Sat G (rvP q v (stO S :: L)) w) : Calls Tryz.prog 111 #[.pointer (some ⟨q, 0, none⟩), .int .i64 n] w (Ret fun r w' => ∃ (p' : PgV) (er : Int) (A : Assn),
  r = .tuple #[.agg p'.cells.toArray, .int .i64 er] ∧ Ones p'.cells ∧ ((rd n = none ∧ er = 15 ∧ p' = pgZ ∧ A = both []) ∨ (rd n = some p'.pg ∧ er = 0 ∧ A = pgO p' ∧ p'.Sm)) ∧ Sat G (A :: rvP q v (stO S :: L)) w') := by
 refine ret_mono (ct_ref11_Vault_Read (n := n) hw hI.len hI.plen (fun hc pg hpg => ?_)) fun r w' hr => ?_
 ·obtain ⟨pg', h1, h2, h3, -⟩ := hI.yes n hc
  rw [hpg] at h1
  cases h1
  exact ⟨h2, h3⟩
 rcases hr with ⟨hc, rfl, hw'⟩ | ⟨hc, pg, p', hpg, rfl, hpe, hps, hw'⟩
 ·exact ⟨pgZ, 15, both [], rfl, pgZ_ones, .inl ⟨hI.no n hc, rfl, rfl, rfl⟩, Sat.both_in (M := []) hw'⟩
 obtain ⟨pg', h1, -, -, h4, -⟩ := hI.yes n hc
 rw [hpg] at h1
 cases h1
 exact ⟨p', 0, pgO p', rfl, ones_pg (pgParts_ok hps pK) hw', .inr ⟨by rw [h4, hpe], rfl, rfl, hps⟩, hw'⟩
theorem ct_ref13_Load {q : Nat} {v : RvV} {rd : Int → Option Pg} {S : List PgV} {x : ItV} (hI : RvIs rd v S) (hw : Sat G (rvP q v (stO S :: L)) w) (hx : x.Ok (stO S :: L)) : Calls Tryz.prog 62 #[.pointer (some ⟨q, 0, none⟩), .agg x.cells.toArray] w (Ret fun r w' => ∃ u, r = .tuple #[u, .int .i64 (loadB rd x.it).1] ∧ Sat G (row 5 1 u (loadB rd x.it).2.length (bys (loadB rd x.it).2) :: rvP q v (stO S :: L)) w') := by
 obtain ⟨a1, c1, a2, c2, hk, hv1, hcl⟩ := hx.form (hw.b [blk q _ _, row 3 _ _ _ _, row 4 _ _ _ _, row 75 _ _ _ _]).tail.tail.tail.tail
 have hsv := hx.sv
 unfold Small at hsv
 refine calls_of_x (args := [_, _]) Tryz.func62 rfl Tryz.ntmps62 rfl rfl ?_
 refine z2 ?_
 refine x_box rfl rfl trivial rfl rfl hw rfl (fun w b3 hw => ?_)
 refine z7 ?_
 refine lD (v := .int .i64 x.it.size) one_int hw ?_
 refine z2 ?_
 refine xl_and (l1 := [4, 5, 6, 7]) (l2 := [8, 9, 10, 11, 12, 13, 14, 15, 16, 17, 18, 19, 20]) rfl (d := 18) (x.it.size < 0 ∨ 3840 < x.it.size) rfl ?_ ?_
 ·
  refine xl_split (d := 14) rfl (fun h1 => ?_) (fun h1 => ?_)
  ·
   refine z5 ?_
   refine cQ ?_
   exact dC
  refine z1 ?_
  refine lD (v := .int .i64 x.it.size) one_int hw ?_
  refine z3 ?_
  refine cQ ?_
  exact dC
 refine z1 ?_
 refine xl_and (l1 := [9, 10, 11, 12, 13, 14, 15, 16, 17, 18, 19, 20]) (l2 := []) rfl (d := 31) ((x.it.size < 0 ∨ 3840 < x.it.size) ∨ (x.it.size ≤ 32 ∧ ¬ (x.it.value.length : Int) = x.it.size)) rfl ?_ ?_
 ·
  refine xl_split (d := 19) rfl (fun h2 => ?_) (fun h2 => ?_)
  ·
   refine z13 ?_
   refine cQ ?_
   first | exact (decide_eq_true (Or.inl (by assumption))).symm | exact decide_eq_decide.2 ⟨fun h => .inr h, fun h => h.resolve_left (by assumption)⟩
  refine z1 ?_
  refine lD (v := .int .i64 x.it.size) one_int hw ?_
  refine z2 ?_
  refine xl_and (l1 := [13, 14, 15, 16, 17, 18, 19]) (l2 := [20]) rfl (d := 30) (x.it.size ≤ 32 ∧ ¬ (x.it.value.length : Int) = x.it.size) rfl ?_ ?_
  ·
   refine xl_split (d := 23) rfl (fun h3 => ?_) (fun h3 => ?_)
   ·
    refine z1 ?_
    refine x_ld rfl rfl ⟨_, rfl, rfl⟩ rfl (Loads.blk1 (v := .slice a2 x.it.value.length c2) one_sl_uint8 hw pK (by rw [← hv1]; rfl)) ?_
    refine z2 ?_
    refine lD (v := .int .i64 x.it.size) one_int hw ?_
    refine z1 ?_
    refine x_pickT rfl rfl ⟨_, rfl, rfl⟩ rfl rfl rfl ?_
    refine xl_nil ?_
    refine cQ ?_
    first | exact decide_eq_decide.2 ⟨fun h => ⟨by assumption, h⟩, fun h => h.2⟩ | exact (decide_eq_false (fun h => by omega)).symm
   refine z6 ?_
   refine x_pickF rfl rfl ⟨_, rfl, rfl⟩ rfl rfl rfl ?_
   refine xl_nil ?_
   refine cQ ?_
   first | exact decide_eq_decide.2 ⟨fun h => ⟨by assumption, h⟩, fun h => h.2⟩ | exact (decide_eq_false (fun h => by omega)).symm
  refine z2 ?_
  refine cQ ?_
  first | exact (decide_eq_true (Or.inl (by assumption))).symm | exact decide_eq_decide.2 ⟨fun h => .inr h, fun h => h.resolve_left (by assumption)⟩
 refine xl_nil ?_
 refine x_if rfl (fun h4 => ?_) (fun h4 => ?_)
 ·
  refine z6 ?_
  exact end2 rfl rfl rfl rfl (by
 have e : loadB rd x.it = (8, []) := by unfold loadB; rw [if_pos h4]
 rw [e]
 exact ⟨_, rfl, row_nil (hw.b [blk b3 _ _]).tail _ _⟩)
 refine z5 ?_
 refine lD (v := .int .i64 x.it.size) one_int hw ?_
 refine z2 ?_
 refine x_if rfl (fun h5 => ?_) (fun h5 => ?_)
 ·
  refine z3 ?_
  refine lD (v := x.vv) one_sl_uint8 hw ?_
  refine x_call rfl rfl trivial cal_ref00_CopyBytes rfl (ct_ref00_CopyBytes hw (hx.v.of sF) hx.sv) rfl (fun w v37 hv => ?_)
  have hw : Sat G (row 5 1 v37 x.it.value.length (bys x.it.value) :: _) _ := hv
  refine z4 ?_
  exact end2 rfl rfl rfl rfl (by
 have e : loadB rd x.it = (0, x.it.value) := by unfold loadB; rw [if_neg h4, if_pos h5]
 rw [e]
 exact ⟨_, rfl, (hw.b [blk b3 _ _]).tail⟩)
 refine z3 ?_
 refine x_bs0 rfl rfl trivial U_sl_uint8 sz_uint8 hw rfl (fun w b38 hw => ?_)
 refine z5 ?_
 refine lD (v := .int .i64 x.it.child) one_int hw ?_
 refine z4 ?_
 have hld : loadB rd x.it = loadG rd x.it.size x.it.size.toNat x.it.child [] := by unfold loadB; rw [if_neg h4, if_neg h5]
 have hw := row_mk (xs := []) (m := 0) (cap := 0) (z := 1) (by rw [List.nil_append]; exact hw) rfl (Nat.le_refl _) (by simp only [maxLen]; omega) (by simp)
 have hw := hw.b [row 5 1 _ 0 _, blk b3 _ _, blk q _ _, row 3 _ _ _ _, row 4 _ _ _ _, row 75 _ _ _ _]
 refine x_loop (fun m e w => ∃ (f : Nat) (n : Int) (out : Bys) (u : Value), m = f + 1 ∧ e = [(0, .pointer (some ⟨q, 0, none⟩)), (3, .pointer (some ⟨b3, 0, none⟩)), (6, u), (7, .int .i64 n)] ∧ (loadB rd x.it = loadG rd x.it.size f n out ∧ x.it.size ≤ out.length + f ∧ (out.length : Int) ≤ 3840) ∧ Sat G (row 5 1 u out.length (bys out) :: blk b3 x.cells 114 :: rvP q v (stO S :: L)) w)
  (m := x.it.size.toNat + 1) (e₀ := [(0, .pointer (some ⟨q, 0, none⟩)), (3, .pointer (some ⟨b3, 0, none⟩)), (6, .slice (some ⟨b38, 0, none⟩) 0 0), (7, .int .i64 x.it.child)]) sB
  ⟨x.it.size.toNat, x.it.child, [], _, rfl, rfl, ⟨hld, by simp; omega, by simp⟩, hw⟩ ?_
 rintro m e w ⟨f, n, out, u, rfl, rfl, ⟨hlg, hf1, hf2⟩, hw⟩
 obtain ⟨ua, uc, rfl⟩ := row_form hw
 refine z6 ?_
 refine lD (v := .int .i64 x.it.size) one_int hw ?_
 refine z2 ?_
 refine x_if rfl (fun h6 => ?_) (fun h6 => ?_)
 ·
  obtain ⟨f, rfl⟩ : ∃ g, f = g + 1 := ⟨f - 1, by omega⟩
  rw [loadG, if_neg (by omega)] at hlg
  refine z6 ?_
  refine x_call rfl rfl trivial cal_ref11_Vault_Read rfl (ct_rv_Read (n := n) hI (hw.b [blk q _ _, row 3 _ _ _ _, row 4 1 v.lv _ _, row 75 _ _ _ _, stO S])) rfl (fun w v49 hv => ?_)
  obtain ⟨p', er, A, rfl, hone, hcs, hw⟩ := hv
  refine z3 ?_
  refine x_alloc rfl rfl trivial z_api_Page hw rfl (fun w b8 hw => ?_)
  refine x_stN (cs := p'.cells) (l' := p'.cells) rfl trivial rfl rfl many_api_Page rfl hone hw pK (by simp [PgV.cells]) rfl rfl (fun w hw => ?_)
  refine z8 ?_
  refine xl_and (l1 := [3, 4, 5, 6]) (l2 := []) rfl (d := 58) (er ≠ 0 ∨ ¬ p'.kind = 3) rfl ?_ ?_
  ·
   refine xl_split (d := 54) rfl (fun h7 => ?_) (fun h7 => ?_)
   ·
    refine z5 ?_
    refine cQ ?_
    exact dC
   refine z1 ?_
   refine lD (v := .int .i64 p'.kind) one_int hw ?_
   refine z3 ?_
   refine cQ ?_
   exact dC
  refine xl_nil ?_
  refine x_if rfl (fun h8 => ?_) (fun h8 => ?_)
  ·
   refine z6 ?_
   exact end2 rfl rfl rfl rfl (by
 rcases hcs with ⟨hr, rfl, rfl, rfl⟩ | ⟨hr, rfl, rfl, hps⟩
 ·rw [hr] at hlg
  rw [hlg]
  exact ⟨_, rfl, row_nil (hw.b [blk b8 _ _, both [], row 5 1 _ _ _, blk b3 _ _, blk q _ _, row 3 _ _ _ _, row 4 1 v.lv _ _, row 75 _ _ _ _]).tail.tail.tail.tail _ _⟩
 ·rw [hr] at hlg
  simp only at hlg
  rw [if_pos (by show ¬ p'.kind = 3; omega)] at hlg
  rw [hlg]
  exact ⟨_, rfl, row_nil (hw.b [blk b8 _ _, pgO p', row 5 1 _ _ _, blk b3 _ _, blk q _ _, row 3 _ _ _ _, row 4 1 v.lv _ _, row 75 _ _ _ _]).tail.tail.tail.tail _ _⟩)
  obtain ⟨hr, rfl, rfl, hps⟩ := hcs.resolve_left (fun h => by have := h.2.1; omega)
  rw [hr] at hlg
  simp only at hlg
  rw [if_neg (by show ¬ ¬ p'.kind = 3; omega)] at hlg
  have hpo : p'.Ok [pgO p'] := pgParts_ok hps .here
  obtain ⟨da, dc, hd⟩ : ∃ da dc, p'.d = .slice da p'.data.length dc := by
   obtain ⟨a, c, h⟩ := (hpo.data.at (hw.pick (A := pgO p') pK).head).form
   exact ⟨a, c, h⟩
  refine z4 ?_
  refine lD (v := .int .i64 x.it.size) one_int hw ?_
  refine z5 ?_
  refine x_join (fun e w => e = [(0, .pointer (some ⟨q, 0, none⟩)), (3, .pointer (some ⟨b3, 0, none⟩)), (6, .slice ua out.length uc), (8, .pointer (some ⟨b8, 0, none⟩)), (10, .int .i64 (min (x.it.size - out.length) 480))] ∧ Sat G (blk b8 p'.cells 75 :: pgO p' :: row 5 1 (.slice ua out.length uc) out.length (bys out) :: blk b3 x.cells 114 :: rvP q v (stO S :: L)) w) ?_ ?_
  ·
   refine z5 ?_
   refine x_if rfl (fun h9 => ?_) (fun h9 => ?_)
   ·
    refine z3 ?_
    have hmin : (480 : Int) = min (x.it.size - out.length) 480 := by omega
    exact ⟨[(0, _), (3, _), (6, _), (8, _), (10, .int .i64 480)], sB, by rw [← hmin], hw.b [blk b8 _ _, pgO p', row 5 1 (.slice ua out.length uc) _ _, blk b3 _ _, blk q _ _, row 3 _ _ _ _, row 4 1 v.lv _ _, row 75 _ _ _ _]⟩
   refine x_skip ?_
   have hmin : x.it.size - out.length = min (x.it.size - out.length) 480 := by omega
   exact ⟨[(0, _), (3, _), (6, _), (8, _), (10, .int .i64 (x.it.size - out.length))], sB, by rw [← hmin], hw.b [blk b8 _ _, pgO p', row 5 1 (.slice ua out.length uc) _ _, blk b3 _ _, blk q _ _, row 3 _ _ _ _, row 4 1 v.lv _ _, row 75 _ _ _ _]⟩
  clear hw
  rintro e w ⟨rfl, hw⟩
  refine z4 ?_
  refine x_ld rfl rfl trivial rfl (Loads.blk1 (v := .slice da p'.data.length dc) one_sl_uint8 hw pK (by rw [← hd]; rfl)) ?_
  refine z4 ?_
  refine xl_and (l1 := [6, 7, 8, 9, 10, 11, 12, 13, 14, 15, 16, 17]) (l2 := []) rfl (d := 83) (¬ ((p'.data.length : Int) = min (x.it.size - out.length) 480 ∧ (p'.next = 0 ↔ x.it.size - out.length ≤ 480))) rfl ?_ ?_
  ·
   refine xl_split (d := 71) rfl (fun h10 => ?_) (fun h10 => ?_)
   ·
    refine z13 ?_
    refine cQ ?_
    first | (symm; rw [decide_eq_true_eq]; intro h; exact absurd h.1 h10) | (have hq := Decidable.not_not.1 h10; have hb : (out.length : Int) + min (x.it.size - out.length) 480 = x.it.size ↔ x.it.size - out.length ≤ 480 := by omega
                                                                             exact decide_eq_decide.2 ⟨fun h h2 => h (decide_eq_decide.2 (h2.2.trans hb.symm)), fun h h2 => h ⟨hq, (decide_eq_decide.1 h2).trans hb⟩⟩)
   refine z1 ?_
   refine lD (v := .int .i64 p'.next) one_int hw ?_
   refine z4 ?_
   refine x_addi rfl rfl ⟨_, rfl, rfl⟩ rfl rfl (by omega) ?_
   refine z1 ?_
   refine lD (v := .int .i64 x.it.size) one_int hw ?_
   refine z1 ?_
   refine x_neb rfl rfl ⟨_, rfl, rfl⟩ (by kernel_rfl) U_bool rfl rfl ?_
   refine z2 ?_
   refine cQ ?_
   first | (symm; rw [decide_eq_true_eq]; intro h; exact absurd h.1 h10) | (have hq := Decidable.not_not.1 h10; have hb : (out.length : Int) + min (x.it.size - out.length) 480 = x.it.size ↔ x.it.size - out.length ≤ 480 := by omega
                                                                            exact decide_eq_decide.2 ⟨fun h h2 => h (decide_eq_decide.2 (h2.2.trans hb.symm)), fun h h2 => h ⟨hq, (decide_eq_decide.1 h2).trans hb⟩⟩)
  refine xl_nil ?_
  refine x_if rfl (fun h11 => ?_) (fun h11 => ?_)
  ·
   refine z6 ?_
   exact end2 rfl rfl rfl rfl (by
 rw [if_pos (show ¬ ((p'.pg.data.length : Int) = min (x.it.size - out.length) 480 ∧ (p'.pg.next = 0 ↔ x.it.size - out.length ≤ 480)) from h11)] at hlg
 rw [hlg]
 exact ⟨_, rfl, row_nil (hw.b [blk b8 _ _, pgO p', row 5 1 (.slice ua _ uc) _ _, blk b3 _ _, blk q _ _, row 3 _ _ _ _, row 4 1 v.lv _ _, row 75 _ _ _ _]).tail.tail.tail.tail _ _⟩)
  rw [if_neg (show ¬ ¬ ((p'.pg.data.length : Int) = min (x.it.size - out.length) 480 ∧ (p'.pg.next = 0 ↔ x.it.size - out.length ≤ 480)) from h11)] at hlg
  obtain ⟨hdl, hnx⟩ := Decidable.not_not.1 h11
  refine z5 ?_
  refine x_ld rfl rfl trivial rfl (Loads.blk1 (v := .slice da p'.data.length dc) one_sl_uint8 hw pK (by rw [← hd]; rfl)) ?_
  have hsb : SlB (.slice da p'.data.length dc) p'.data w := by rw [← hd]; exact hpo.data.at (hw.pick (A := pgO p') pK).head
  obtain ⟨db, od, dc', hda, -⟩ := hsb.arm (by omega)
  cases hda
  have hrd : Rd w ⟨db, od, none⟩ (bys p'.data) := by
   rcases hsb with ⟨_, h⟩ | ⟨_, _, _, h1, _, h3⟩
   ·rw [h] at hdl; simp only [List.length_nil] at hdl; omega
   cases h1; exact h3
  refine x_app (m := out.length) (k := p'.data.length) (news := bys p'.data) rfl rfl trivial U_sl_uint8 sz_uint8 by_uint8 zs_uint8 rfl rfl hw pK hrd (by rw [bys_length]; omega) (ones_bys _) (by simp only [maxLen]; omega) (by omega) rfl (fun w v87 hw => ?_)
  refine z4 ?_
  refine lD (v := .int .i64 p'.next) one_int hw ?_
  refine z2 ?_
  have hz := (hw.b [blk b8 _ _, pgO p', row 5 1 v87 _ _, blk b3 _ _, blk q _ _, row 3 _ _ _ _, row 4 1 v.lv _ _, row 75 _ _ _ _]).tail.tail
  refine ⟨f + 1, by omega, [(0, _), (3, _), (6, v87), (7, .int .i64 p'.next)], sB, f, p'.next, out ++ p'.data, v87, rfl, rfl, ⟨hlg, by rw [List.length_append]; omega, by rw [List.length_append]; omega⟩, ?_⟩
  rw [List.length_append, bys_append]; exact hz
 refine z8 ?_
 exact end2 rfl rfl rfl rfl (by
 rw [loadG_full _ _ _ _ _ (by omega)] at hlg
 rw [hlg]
 exact ⟨_, rfl, (hw.b [blk b3 _ _, row 5 1 (.slice ua _ uc) _ _, blk q _ _, row 3 _ _ _ _, row 4 1 v.lv _ _, row 75 _ _ _ _]).tail⟩)
end
abbrev Pr := Bys × Bys
def prT (rd : Int → Option Pg) (x : It) : Pr := (x.key, (loadB rd x).2)
def soundT (rd : Int → Option Pg) : Nat → Int → Prop
 | 0, n => ∃ p, rd n = some p ∧ p.kind = 1 ∧ ∀ x ∈ p.items, (loadB rd x).1 = 0
 | k + 1, n => ∃ p, rd n = some p ∧ p.kind = 2 ∧ ∀ x ∈ p.items, soundT rd k x.child
def flatT (rd : Int → Option Pg) : Nat → Int → List Pr
 | 0, n => match rd n with
  | none => []
  | some p => p.items.map (prT rd)
 | k + 1, n => match rd n with
  | none => []
  | some p => p.items.flatMap fun x => flatT rd k x.child
def numT (rd : Int → Option Pg) : Nat → Int → Nat
 | 0, _ => 1
 | k + 1, n => match rd n with
  | none => 1
  | some p => 1 + (p.items.map fun x => numT rd k x.child).sum
theorem numT_pos (rd : Int → Option Pg) (k : Nat) (n : Int) : 1 ≤ numT rd k n := by
 cases k with
 | zero => exact Nat.le_refl _
 | succ k => rw [numT]; split <;> omega
def kidsS (k : Nat) (p : Pg) : List (Int × Nat) := if p.kind = 2 then p.items.map (fun x => (x.child, k - 1)) else []
def restS (rd : Int → Option Pg) (st : List (Int × Nat)) : List Pr := st.reverse.flatMap fun x => flatT rd x.2 x.1
def numS (rd : Int → Option Pg) (st : List (Int × Nat)) : Nat := (st.map fun x => numT rd x.2 x.1).sum
theorem numS_len (rd : Int → Option Pg) : ∀ st : List (Int × Nat), st.length ≤ numS rd st
 | [] => Nat.le_refl _
 | x :: st => by
  have := numS_len rd st
  have := numT_pos rd x.2 x.1
  unfold numS at *
  simp only [List.length_cons, List.map_cons, List.sum_cons]; omega
theorem numS_app (rd : Int → Option Pg) (a b : List (Int × Nat)) : numS rd (a ++ b) = numS rd a + numS rd b := by unfold numS; rw [List.map_append, List.sum_append]
theorem restS_app (rd : Int → Option Pg) (a b : List (Int × Nat)) : restS rd (a ++ b) = restS rd b ++ restS rd a := by unfold restS; rw [List.reverse_append, List.flatMap_append]
theorem numS_rev (rd : Int → Option Pg) : ∀ a : List (Int × Nat), numS rd a.reverse = numS rd a
 | [] => rfl
 | x :: a => by
  have ih := numS_rev rd a
  rw [List.reverse_cons, numS_app, ih]
  unfold numS; simp only [List.map_cons, List.map_nil, List.sum_cons, List.sum_nil]; omega
theorem sound_step {rd : Int → Option Pg} {k : Nat} {n : Int} (h : soundT rd k n) : ∃ p, rd n = some p ∧ (p.kind = 1 ∨ p.kind = 2) ∧ (p.kind = 1 → ∀ x ∈ p.items, (loadB rd x).1 = 0) ∧ (∀ x ∈ kidsS k p, soundT rd x.2 x.1) ∧
  flatT rd k n = (if p.kind = 1 then p.items.map (prT rd) else []) ++ restS rd (kidsS k p).reverse ∧ numT rd k n = 1 + numS rd (kidsS k p) := by
 cases k with
 | zero =>
  obtain ⟨p, h1, h2, h3⟩ := h
  have e : kidsS 0 p = [] := by unfold kidsS; rw [if_neg (by omega)]
  refine ⟨p, h1, .inl h2, fun _ => h3, (by rw [e]; intro x hx; cases hx), ?_, by rw [e]; rfl⟩
  rw [e, flatT, h1, if_pos h2]; simp [restS]
 | succ k =>
  obtain ⟨p, h1, h2, h3⟩ := h
  have e : kidsS (k + 1) p = p.items.map (fun x => (x.child, k)) := by unfold kidsS; rw [if_pos h2]; rfl
  refine ⟨p, h1, .inr h2, fun h => by omega, ?_, ?_, ?_⟩
  ·rw [e]; intro x hx
   obtain ⟨y, hy, rfl⟩ := List.mem_map.1 hx
   exact h3 y hy
  ·rw [e, flatT, h1, if_neg (by omega)]
   unfold restS
   rw [List.reverse_reverse, List.flatMap_map]; rfl
  rw [e, numT, h1]
  unfold numS
  rw [List.map_map]; rfl
structure PrV where
 pr : Pr
 kv : Value
 vv : Value
def PrV.cells (x : PrV) : List Value := [x.kv, x.vv]
def prParts (x : PrV) : List Assn := [row 5 1 x.kv x.pr.1.length (bys x.pr.1), row 5 1 x.vv x.pr.2.length (bys x.pr.2)]
abbrev prsP (u : Value) (l : List PrV) (L : List Assn) : List Assn := row 66 2 u l.length (l.map PrV.cells).flatten :: both (l.flatMap prParts) :: L
section
variable {G : Gh} {L R : List Assn} {w : World}
theorem ct_ref14_All {q : Nat} {v : RvV} {rd : Int → Option Pg} {S : List PgV} {t : Tr} (hI : RvIs rd v S) (hw : Sat G (rvP q v (stO S :: L)) w) (hs : t.root ≠ 0 → soundT rd (t.height - 1).toNat t.root) (hb : t.root ≠ 0 → (flatT rd (t.height - 1).toNat t.root).length ≤ 1000000000 ∧ numT rd (t.height - 1).toNat t.root ≤ 1000000000) :
  Calls Tryz.prog 31 #[.pointer (some ⟨q, 0, none⟩), .agg (treeC t).toArray] w (Ret fun r w' => ∃ l : List PrV, l.map PrV.pr = (if t.root = 0 then [] else flatT rd (t.height - 1).toNat t.root) ∧ Sat G (prsP r l (rvP q v (stO S :: L))) w') := by
 obtain ⟨pb, pc, hpv⟩ := hI.pv (hw.b [blk q _ _, row 3 1 v.cv _ _, row 4 1 v.lv _ _, row 75 _ _ _ _])
 have hN := hI.len
 have hP := hI.plen
 have hsl : ∀ R, Knows (row 75 5 v.pv v.p.length (v.p.map PgV.cells).flatten :: R) (SlT 5 (.slice (some ⟨pb, 0, none⟩) v.p.length pc) (v.p.map PgV.cells)) := fun R => by
  rw [hpv]; exact (SlT.row (by simp) (pgs_z v.p)).head R
 refine calls_of_x (args := [_, _]) Tryz.func31 rfl Tryz.ntmps31 rfl rfl ?_
 refine z2 ?_
 refine x_box rfl rfl trivial rfl rfl hw rfl (fun w b3 hw => ?_)
 refine z6 ?_
 refine lD (v := .int .i64 t.root) one_int hw ?_
 refine z2 ?_
 refine x_if rfl (fun h1 => ?_) (fun h1 => ?_)
 ·
  refine z5 ?_
  exact end1 rfl rfl rfl (by
 refine ⟨[], by rw [if_pos h1]; rfl, ?_⟩
 have hz := (hw.b [blk b3 _ _]).tail
 exact row_nil (Sat.both_in (M := []) hz) 66 2)
 have hs := hs h1
 have hb := hb h1
 rw [if_neg h1]
 obtain ⟨kk, hkk⟩ : ∃ kk, kk = (t.height - 1).toNat := ⟨_, rfl⟩
 rw [← hkk] at hs hb
 rw [← hkk]
 refine z8 ?_
 refine lD (v := .int .i64 t.root) one_int hw ?_
 refine x_bs1 (cs := [.int .i64 t.root]) rfl rfl trivial U_sl_int sz_int zs_int (by decide) rfl rfl rfl hw rfl (fun w b18 hw => ?_)
 refine z4 ?_
 have hw := row_full (z := 1) (m := 1) hw rfl (by simp only [maxLen]; omega)
 have hw := row_nil (Sat.both_in (M := []) hw) 66 2
 have hw := hw.b [row 3 1 (.slice (some ⟨b18, 0, none⟩) _ _) _ _, row 66 _ _ _ _, both [], blk b3 _ _, blk q _ _, row 3 1 v.cv _ _, row 4 1 v.lv _ _, row 75 _ _ _ _]
 have hw : Sat G (row 3 1 (.slice (some ⟨b18, 0, none⟩) 1 1) [(t.root, kk)].length (ints ([(t.root, kk)].map (·.1))) :: row 66 2 (.slice none 0 0) ([] : List PrV).length (([] : List PrV).map PrV.cells).flatten :: both (([] : List PrV).flatMap prParts) :: blk b3 (treeC t) 62 :: rvP q v (stO S :: L)) w := hw
 refine x_loop (fun m e w => ∃ (st : List (Int × Nat)) (ol : List PrV) (tv ov : Value), m = numS rd st ∧ e = [(0, .pointer (some ⟨q, 0, none⟩)), (5, ov), (6, tv)] ∧ ((∀ x ∈ st, soundT rd x.2 x.1) ∧ flatT rd kk t.root = ol.map PrV.pr ++ restS rd st ∧ numS rd st ≤ 1000000000) ∧ Sat G (row 3 1 tv st.length (ints (st.map (·.1))) :: row 66 2 ov ol.length (ol.map PrV.cells).flatten :: both (ol.flatMap prParts) :: blk b3 (treeC t) 62 :: rvP q v (stO S :: L)) w)
  (m := numS rd [(t.root, kk)]) (e₀ := [(0, .pointer (some ⟨q, 0, none⟩)), (5, .slice none 0 0), (6, .slice (some ⟨b18, 0, none⟩) 1 1)]) sB
  ⟨[(t.root, kk)], [], _, _, rfl, rfl, ⟨by intro x hx; simp at hx; subst hx; exact hs, by simp [restS], by simpa [numS] using hb.2⟩, hw⟩ ?_
 rintro m e w ⟨st, ol, tv, ov, rfl, rfl, ⟨hst, hfl, hns⟩, hw⟩
 obtain ⟨ta, tc, rfl⟩ := row_form hw
 obtain ⟨oa, oc, rfl⟩ := row_form (hw.pick (A := row 66 2 ov _ _) pK)
 refine z7 ?_
 refine x_if rfl (fun h2 => ?_) (fun h2 => ?_)
 ·
  have hsl0 : 0 < st.length := by omega
  obtain ⟨st0, x, rfl⟩ : ∃ st0 x, st = st0 ++ [x] := ⟨st.dropLast, st.getLast (by intro h; subst h; simp at hsl0), (List.dropLast_concat_getLast _).symm⟩
  obtain ⟨n, k⟩ := x
  obtain ⟨p, hp, hkind, hld, hkd, hft, hnt⟩ := sound_step (hst (n, k) (by simp))
  simp only at hft hnt hkd hp
  have hst0 : ∀ x ∈ st0, soundT rd x.2 x.1 := fun x hx => hst x (List.mem_append_left _ hx)
  have hc := hI.th (n := n) (by rw [hp]; simp)
  obtain ⟨pg, hpg, hpS, hpm, hrd, hck⟩ := hI.yes n hc
  rw [hp] at hrd
  cases hrd
  have hin := cntP_in hc
  have hpr : (v.p.map PgV.cells)[(n - 1).toNat]? = some pg.cells := by rw [List.getElem?_map, hpg]; rfl
  have hl9 := numS_len rd st0
  have hns2 : numS rd (st0 ++ [(n, k)]) = numS rd st0 + numT rd k n := by rw [numS_app]; simp [numS]
  have hlen : (st0 ++ [(n, k)]).length = st0.length + 1 := by simp
  rw [hlen] at hw
  rw [hlen]
  have hti : (ints ((st0 ++ [(n, k)]).map (·.1)))[st0.length]? = some (.int .i64 n) := by simp [ints]
  obtain ⟨-, tb, -, hta, htc, -⟩ := row_some hw (by omega)
  subst hta
  have htk : Knows (row 3 1 (.slice (some ⟨tb, 0, none⟩) (st0.length + 1) tc) (st0.length + 1) (ints ((st0 ++ [(n, k)]).map (·.1))) :: row 66 2 (.slice oa ol.length oc) ol.length (ol.map PrV.cells).flatten :: both (ol.flatMap prParts) :: blk b3 (treeC t) 62 :: rvP q v (stO S :: L)) (SlV (.slice (some ⟨tb, 0, none⟩) (st0.length + 1) tc) (ints ((st0 ++ [(n, k)]).map (·.1)))) := by
   have h := rowI (v := .slice (some ⟨tb, 0, none⟩) (st0.length + 1) tc) (c := (st0 ++ [(n, k)]).map (·.1)) (R := row 66 2 (.slice oa ol.length oc) ol.length (ol.map PrV.cells).flatten :: both (ol.flatMap prParts) :: blk b3 (treeC t) 62 :: rvP q v (stO S :: L))
   rw [List.length_map, hlen] at h
   exact h
  refine z8 ?_
  refine x_idx1 rfl rfl trivial U_sl_int sz_int rfl rfl ⟨by omega, by omega⟩ ?_
  refine x_ld rfl rfl trivial rfl (Loads.one (v := .int .i64 n) one_int (by
 have e : (((st0.length + 1 : Nat) : Int) - 1).toNat = st0.length := by omega
 exact (htk.at hw).at (by rw [e]; exact hti))) ?_
  refine z8 ?_
  refine x_cutH rfl rfl trivial U_sl_int szs_int rfl (by simp) rfl ⟨by omega, by omega⟩ ?_
  have e32 : (((st0.length + 1 : Nat) : Int) - 1).toNat = st0.length := by omega
  rw [e32]
  have hw := row_cut hw (j := st0.length) (by omega)
  have hta2 : (ints ((st0 ++ [(n, k)]).map (·.1))).take st0.length = ints (st0.map (·.1)) := by simp [ints]
  rw [hta2] at hw
  refine z7 ?_
  refine x_call rfl rfl trivial cal_ref11_Vault_There rfl (ct_ref11_Vault_There (q := q) (v := v) (n := n) (hw.b [blk q _ _, row 3 1 v.cv _ _, row 4 1 v.lv _ _, row 75 _ _ _ _]) hN) rfl (fun w v35 hv => ?_)
  obtain ⟨rfl, hw⟩ := hv
  refine x_notp rfl rfl trivial rfl ?_
  refine xl_nil ?_
  refine x_if rfl (fun h3 => ?_) (fun h3 => ?_)
  ·
   exact absurd hc h3
  obtain ⟨ia, ic, hsv⟩ : ∃ ia ic, pg.s = .slice ia pg.l.length ic := by
   obtain ⟨ia, ic, hs, -, -⟩ := ((stO_ok hpS hpm pK).its.sl.at hw).form
   rw [List.length_map] at hs
   exact ⟨ia, ic, hs⟩
  have hpl : pg.pg.items.length = pg.l.length := by simp [PgV.pg]
  have hp8 := (check_items hck).1
  have hil : ∀ R, Knows (stO S :: R) (SlT 4 (.slice ia pg.l.length ic) (pg.l.map ItV.cells)) := fun R => by rw [← hsv]; exact (stO_ok (L := stO S :: R) hpS hpm .here).its.sl
  have hkl : (kidsS k pg.pg).length = if pg.kind = 2 then pg.l.length else 0 := by
   unfold kidsS
   show (if pg.kind = 2 then _ else _ : List (Int × Nat)).length = _
   split
   ·rw [List.length_map, hpl]
   rfl
  refine z6 ?_
  refine x_ld rfl rfl trivial rfl (Loads.blk1 (v := .slice (some ⟨pb, 0, none⟩) v.p.length pc) one_sl_api_Page hw pK (by rw [← hpv]; rfl)) ?_
  refine z2 ?_
  refine x_idx rfl rfl trivial U_sl_api_Page sz_api_Page rfl rfl ⟨by omega, by omega⟩ ?_
  refine x_ld rfl rfl trivial rfl (Loads.many (cs := pg.cells) many_api_Page rfl (((hsl _).of sF).at hw |>.at hpr)) ?_
  refine x_alloc rfl rfl trivial z_api_Page hw rfl (fun w b8 hw => ?_)
  refine x_stN (cs := pg.cells) (l' := pg.cells) rfl trivial rfl rfl many_api_Page rfl (ones_pg (stO_ok hpS hpm pK) hw) hw pK (by simp [PgV.cells]) rfl rfl (fun w hw => ?_)
  refine z5 ?_
  refine x_ld rfl rfl trivial rfl (Loads.blk1 (v := .slice ia pg.l.length ic) one_sl_api_Item hw pK (by rw [← hsv]; rfl)) ?_
  refine z5 ?_
  have hz := hw.b [row 3 1 (.slice (some ⟨tb, 0, none⟩) _ _) _ _, row 66 _ _ _ _, both (ol.flatMap prParts), blk b8 _ _, blk b3 _ _, blk q _ _, row 3 1 v.cv _ _, row 4 1 v.lv _ _, row 75 _ _ _ _, stO S]
  clear hw
  have hw := hz
  clear hz
  refine x_loop (fun m e w => ∃ (j : Nat) (tv : Value), j ≤ (kidsS k pg.pg).length ∧ m = (kidsS k pg.pg).length - j ∧ e = [(0, .pointer (some ⟨q, 0, none⟩)), (5, .slice oa ol.length oc), (6, tv), (8, .pointer (some ⟨b8, 0, none⟩)), (9, .int .i64 ((pg.l.length : Int) - 1 - j))] ∧ Sat G (row 3 1 tv (st0.length + j) (ints ((st0 ++ (kidsS k pg.pg).reverse.take j).map (·.1))) :: row 66 2 (.slice oa ol.length oc) ol.length (ol.map PrV.cells).flatten :: both (ol.flatMap prParts) :: blk b8 pg.cells 75 :: blk b3 (treeC t) 62 :: rvP q v (stO S :: L)) w)
   (m := (kidsS k pg.pg).length) (e₀ := [(0, .pointer (some ⟨q, 0, none⟩)), (5, .slice oa ol.length oc), (6, .slice (some ⟨tb, 0, none⟩) st0.length tc), (8, .pointer (some ⟨b8, 0, none⟩)), (9, .int .i64 ((pg.l.length : Int) - 1))]) sB
   ⟨0, .slice (some ⟨tb, 0, none⟩) st0.length tc, Nat.zero_le _, rfl, by simp, by rw [List.take_zero, List.append_nil]; exact hw⟩ ?_
  rintro m e w ⟨j, tv, hj, rfl, rfl, hw⟩
  obtain ⟨ta, tc2, rfl⟩ := row_form hw
  refine z6 ?_
  refine xl_and (l1 := [3, 4, 5, 6]) (l2 := []) rfl (d := 55) (0 ≤ (pg.l.length : Int) - 1 - j ∧ pg.kind = 2) rfl ?_ ?_
  ·
   refine xl_split (d := 51) rfl (fun h4 => ?_) (fun h4 => ?_)
   ·
    refine z1 ?_
    refine lD (v := .int .i64 pg.kind) one_int hw ?_
    refine z3 ?_
    refine cQ ?_
    exact dC
   refine z5 ?_
   refine cQ ?_
   exact dC
  refine xl_nil ?_
  refine x_if rfl (fun h5 => ?_) (fun h5 => ?_)
  ·
   have hjl : j < pg.l.length := by omega
   have hk2 : pg.pg.kind = 2 := h5.2
   rw [if_pos h5.2] at hkl
   obtain ⟨x, hx⟩ : ∃ x, pg.l[pg.l.length - 1 - j]? = some x := ⟨_, List.getElem?_eq_getElem (by omega)⟩
   have hxr : (pg.l.map ItV.cells)[pg.l.length - 1 - j]? = some x.cells := by rw [List.getElem?_map, hx]; rfl
   obtain ⟨ib, io, hia⟩ := (((hil _).of sF).at hw).nn (by rw [List.length_map]; omega)
   subst hia
   have hkx : (kidsS k pg.pg).reverse[j]? = some (x.it.child, k - 1) := by
    rw [List.getElem?_reverse (by omega), hkl]
    unfold kidsS
    rw [if_pos hk2]
    show ((pg.l.map ItV.it).map _)[_]? = _
    rw [List.getElem?_map, List.getElem?_map, hx]; rfl
   refine z6 ?_
   refine x_ld rfl rfl trivial rfl (Loads.blk1 (v := .slice (some ⟨ib, io, none⟩) pg.l.length ic) one_sl_api_Item hw pK (by rw [← hsv]; rfl)) ?_
   refine z1 ?_
   refine x_idx rfl rfl trivial U_sl_api_Item sz_api_Item rfl rfl ⟨by omega, by omega⟩ ?_
   refine x_fldk rfl rfl trivial fo_api_Item_2 rfl ?_
   refine x_ld rfl rfl trivial rfl (Loads.one (v := .int .i64 x.it.child) one_int (by
 have h := ((((hil _).of sF).at hw).at hxr) 2 _ rfl
 rw [add_lit] at h
 have e : ((pg.l.length : Int) - 1 - j).toNat = pg.l.length - 1 - j := by omega
 rw [e]; exact h)) ?_
   refine x_bs1 (cs := [.int .i64 x.it.child]) rfl rfl trivial U_sl_int sz_int zs_int (by decide) rfl rfl rfl hw rfl (fun w b65 hw => ?_)
   refine x_app (m := st0.length + j) (k := 1) (news := [.int .i64 x.it.child]) rfl rfl trivial U_sl_int sz_int by_int zs_int rfl rfl hw pK (Rd.blk0 hw pK) rfl (by intro u hu; simp at hu; subst hu; rfl) (by simp only [maxLen]; omega) (by omega) rfl (fun w v66 hw => ?_)
   refine z7 ?_
   have hz := (hw.b [blk b65 _ _, row 3 1 v66 _ _, row 66 _ _ _ _, both (ol.flatMap prParts), blk b8 _ _, blk b3 _ _, blk q _ _, row 3 1 v.cv _ _, row 4 1 v.lv _ _, row 75 _ _ _ _, stO S]).tail
   have e1 : ints ((st0 ++ (kidsS k pg.pg).reverse.take (j + 1)).map (·.1)) = ints ((st0 ++ (kidsS k pg.pg).reverse.take j).map (·.1)) ++ [.int .i64 x.it.child] := by
    rw [take_step hkx, ← List.append_assoc, List.map_append, ← ints_snoc]; rfl
   have hcast : (pg.l.length : Int) - 1 - j - 1 = (pg.l.length : Int) - 1 - ((j + 1 : Nat) : Int) := by omega
   rw [hcast]
   refine ⟨(kidsS k pg.pg).length - (j + 1), by omega, [(0, _), (5, _), (6, v66), (8, _), (9, .int .i64 ((pg.l.length : Int) - 1 - ((j + 1 : Nat) : Int)))], sB, j + 1, v66, by omega, rfl, rfl, ?_⟩
   rw [e1]; exact hz
  have hje : j = (kidsS k pg.pg).length := by
   rw [hkl] at hj ⊢
   split at hj <;> (rename_i hk; first | rw [if_pos hk] | rw [if_neg hk]) <;> omega
  subst hje
  rw [List.take_of_length_le (by simp), ← show (st0 ++ (kidsS k pg.pg).reverse).length = st0.length + (kidsS k pg.pg).length by simp] at hw
  rw [← show (st0 ++ (kidsS k pg.pg).reverse).length = st0.length + (kidsS k pg.pg).length by simp]
  have hnk : numS rd (st0 ++ (kidsS k pg.pg).reverse) < numS rd (st0 ++ [(n, k)]) := by rw [hns2, numS_app, numS_rev]; omega
  obtain ⟨st1, hst1⟩ : ∃ st1, st1 = st0 ++ (kidsS k pg.pg).reverse := ⟨_, rfl⟩
  have hso1 : ∀ x ∈ st1, soundT rd x.2 x.1 := fun x hx => by
   rw [hst1] at hx
   rcases List.mem_append.1 hx with hx | hx
   ·exact hst0 x hx
   exact hkd x (List.mem_reverse.1 hx)
  have hfl1 : flatT rd kk t.root = (ol.map PrV.pr ++ if pg.pg.kind = 1 then pg.pg.items.map (prT rd) else []) ++ restS rd st1 := by
   rw [hfl, hst1, restS_app, restS_app, List.append_assoc, ← List.append_assoc (if pg.pg.kind = 1 then _ else _), ← hft]
   simp [restS]
  rw [← hst1] at hw hnk
  rw [← hst1]
  have hfl2 := congrArg List.length hfl1
  simp only [List.length_append, List.length_map] at hfl2
  refine z6 ?_
  refine x_loop (fun m e w => ∃ (j : Nat) (ol' : List PrV) (ov : Value), j ≤ pg.l.length ∧ m = pg.l.length - j ∧ e = [(0, .pointer (some ⟨q, 0, none⟩)), (5, ov), (6, .slice ta st1.length tc2), (8, .pointer (some ⟨b8, 0, none⟩)), (10, .int .i64 j)] ∧ ((¬ pg.kind = 1 → j = 0) ∧ ol'.map PrV.pr = ol.map PrV.pr ++ (pg.pg.items.take j).map (prT rd) ∧ ol'.length = ol.length + j) ∧ Sat G (row 3 1 (.slice ta st1.length tc2) st1.length (ints (st1.map (·.1))) :: row 66 2 ov ol'.length (ol'.map PrV.cells).flatten :: both (ol'.flatMap prParts) :: blk b8 pg.cells 75 :: blk b3 (treeC t) 62 :: rvP q v (stO S :: L)) w)
   (m := pg.l.length) (e₀ := [(0, .pointer (some ⟨q, 0, none⟩)), (5, .slice oa ol.length oc), (6, .slice ta st1.length tc2), (8, .pointer (some ⟨b8, 0, none⟩)), (10, .int .i64 (0 : Nat))]) sB
   ⟨0, ol, _, Nat.zero_le _, rfl, rfl, ⟨fun _ => rfl, by simp, rfl⟩, hw⟩ ?_
  rintro m e w ⟨j, ol', ov, hj, rfl, rfl, ⟨hj0, hol, holn⟩, hw⟩
  obtain ⟨oa2, oc2, rfl⟩ := row_form (hw.pick (A := row 66 2 ov _ _) pK)
  refine z5 ?_
  refine x_ld rfl rfl trivial rfl (Loads.blk1 (v := .slice ia pg.l.length ic) one_sl_api_Item hw pK (by rw [← hsv]; rfl)) ?_
  refine z3 ?_
  refine xl_and (l1 := [6, 7, 8, 9]) (l2 := []) rfl (d := 76) ((j : Int) < pg.l.length ∧ pg.kind = 1) rfl ?_ ?_
  ·
   refine xl_split (d := 72) rfl (fun h6 => ?_) (fun h6 => ?_)
   ·
    refine z1 ?_
    refine lD (v := .int .i64 pg.kind) one_int hw ?_
    refine z3 ?_
    refine cQ ?_
    exact dC
   refine z5 ?_
   refine cQ ?_
   exact dC
  refine xl_nil ?_
  refine x_if rfl (fun h7 => ?_) (fun h7 => ?_)
  ·
   have hk1 : pg.pg.kind = 1 := h7.2
   rw [if_pos hk1] at hfl2 hfl1
   have hjl : j < pg.l.length := by omega
   obtain ⟨x, hx⟩ : ∃ x, pg.l[j]? = some x := ⟨_, List.getElem?_eq_getElem hjl⟩
   have hxr : (pg.l.map ItV.cells)[j]? = some x.cells := by rw [List.getElem?_map, hx]; rfl
   have hxi : pg.pg.items[j]? = some x.it := by show (pg.l.map ItV.it)[_]? = _; rw [List.getElem?_map, hx]; rfl
   have hxo : ∀ R, x.Ok (stO S :: R) := fun R => (stO_ok (L := stO S :: R) hpS hpm .here).its.it x (List.mem_of_getElem? hx)
   have hload := hld hk1 x.it (List.mem_of_getElem? hxi)
   obtain ⟨ib, io, hia⟩ := (((hil _).of sF).at hw).nn (by rw [List.length_map]; omega)
   subst hia
   rw [List.length_map, hpl] at hfl2
   refine z7 ?_
   refine x_ld rfl rfl trivial rfl (Loads.blk1 (v := .slice (some ⟨ib, io, none⟩) pg.l.length ic) one_sl_api_Item hw pK (by rw [← hsv]; rfl)) ?_
   refine z1 ?_
   refine x_idx rfl rfl trivial U_sl_api_Item sz_api_Item rfl rfl ⟨by omega, by omega⟩ ?_
   refine x_ld rfl rfl trivial rfl (Loads.many (cs := x.cells) many_api_Item rfl (by have h := (((hil _).of sF).at hw).at hxr; rw [Int.toNat_natCast]; exact h)) ?_
   refine x_call rfl rfl trivial cal_ref13_Load rfl (ct_ref13_Load (x := x) hI (hw.b [blk q _ _, row 3 1 v.cv _ _, row 4 1 v.lv _ _, row 75 _ _ _ _, stO S]) (hxo _)) rfl (fun w v86 hv => ?_)
   obtain ⟨u, rfl, hw⟩ := hv
   rw [hload]
   obtain ⟨ua, uc, rfl⟩ := row_form hw
   refine z12 ?_
   refine x_if rfl (fun h8 => ?_) (fun h8 => ?_)
   ·
    exact absurd rfl h8
   refine z4 ?_
   refine x_ld rfl rfl trivial rfl (Loads.blk1 (v := .slice (some ⟨ib, io, none⟩) pg.l.length ic) one_sl_api_Item hw pK (by rw [← hsv]; rfl)) ?_
   refine z1 ?_
   refine x_idx rfl rfl trivial U_sl_api_Item sz_api_Item rfl rfl ⟨by omega, by omega⟩ ?_
   refine x_fldk rfl rfl trivial fo_api_Item_0 rfl ?_
   refine x_ld rfl rfl trivial rfl (Loads.one (v := x.kv) one_sl_uint8 ((((hil _).of sF).at hw).cell (j := 0) hxr rfl)) ?_
   refine x_call rfl rfl trivial cal_ref00_CopyBytes rfl (ct_ref00_CopyBytes (l := x.it.key) hw ((hxo _).k.of sF) (hxo []).sk) rfl (fun w v98 hv => ?_)
   have hw : Sat G (row 5 1 v98 x.it.key.length (bys x.it.key) :: _) _ := hv
   obtain ⟨ka, kc, rfl⟩ := row_form hw
   refine z1 ?_
   refine x_build (v := .agg #[.slice ka x.it.key.length kc, .slice ua (loadB rd x.it).2.length uc]) rfl rfl trivial rfl (fun w => by kernel_rfl) ?_
   refine x_bs1 (cs := [.slice ka x.it.key.length kc, .slice ua (loadB rd x.it).2.length uc]) rfl rfl trivial U_sl_api_Pair sz_api_Pair zs_api_Pair (by decide) rfl rfl rfl hw rfl (fun w b101 hw => ?_)
   refine x_app (m := ol'.length) (k := 1) (news := [.slice ka x.it.key.length kc, .slice ua (loadB rd x.it).2.length uc]) rfl rfl trivial U_sl_api_Pair sz_api_Pair by_api_Pair zs_api_Pair rfl rfl hw pK (Rd.blk0 hw pK) rfl (by
        intro z hz; simp only [List.mem_cons, List.not_mem_nil, or_false] at hz
        rcases hz with rfl | rfl <;> rfl) (by simp only [maxLen]; omega) (by omega) rfl (fun w v102 hw => ?_)
   refine z7 ?_
   have hz := (hw.b [blk b101 _ _, both (ol'.flatMap prParts), row 5 1 (.slice ka x.it.key.length kc) _ _, row 5 1 (.slice ua (loadB rd x.it).2.length uc) _ _, row 3 1 (.slice ta _ _) _ _, row 66 _ _ _ _, blk b8 _ _, blk b3 _ _, blk q _ _, row 3 1 v.cv _ _, row 4 1 v.lv _ _, row 75 _ _ _ _, stO S]).tail
   have hz := Sat.both_snoc (Sat.both_snoc hz)
   have hz := hz.b [row 3 1 (.slice ta _ _) _ _, row 66 _ _ _ _, both _]
   have e1 : (ol'.flatMap prParts ++ [row 5 1 (.slice ka x.it.key.length kc) x.it.key.length (bys x.it.key)]) ++ [row 5 1 (.slice ua (loadB rd x.it).2.length uc) (loadB rd x.it).2.length (bys (loadB rd x.it).2)] = (ol' ++ [(⟨prT rd x.it, .slice ka x.it.key.length kc, .slice ua (loadB rd x.it).2.length uc⟩ : PrV)]).flatMap prParts := by simp [prParts, prT]
   have e2 : (ol'.map PrV.cells).flatten ++ [.slice ka x.it.key.length kc, .slice ua (loadB rd x.it).2.length uc] = ((ol' ++ [(⟨prT rd x.it, .slice ka x.it.key.length kc, .slice ua (loadB rd x.it).2.length uc⟩ : PrV)]).map PrV.cells).flatten := by simp [PrV.cells]
   have e3 : ol'.length + 1 = (ol' ++ [(⟨prT rd x.it, .slice ka x.it.key.length kc, .slice ua (loadB rd x.it).2.length uc⟩ : PrV)]).length := by simp
   rw [e1, e2, e3] at hz
   refine ⟨pg.l.length - (j + 1), by omega, [(0, _), (5, _), (6, _), (8, _), (10, .int .i64 (j + 1 : Nat))], sB, j + 1, ol' ++ [⟨prT rd x.it, .slice ka x.it.key.length kc, .slice ua (loadB rd x.it).2.length uc⟩], v102, by omega, rfl, rfl, ⟨fun h => absurd h7.2 h, ?_, by simp; omega⟩, hz⟩
   rw [take_step hxi, List.map_append, List.map_append, hol, List.append_assoc]; rfl
  refine z1 ?_
  have hz := (hw.b [blk b8 _ _, row 3 1 (.slice ta _ _) _ _, row 66 _ _ _ _, both _, blk b3 _ _, blk q _ _, row 3 1 v.cv _ _, row 4 1 v.lv _ _, row 75 _ _ _ _, stO S]).tail
  refine ⟨numS rd st1, hnk, [(0, _), (5, _), (6, _)], sB, st1, ol', _, _, rfl, rfl, ⟨hso1, ?_, by omega⟩, hz⟩
  rw [hfl1, hol]
  congr 2
  by_cases hk1 : pg.pg.kind = 1
  ·have hje : j = pg.l.length := by
    have : pg.kind = 1 := hk1
    omega
   rw [if_pos hk1, hje, ← hpl, List.take_length]
  rw [if_neg hk1, hj0 hk1]; rfl
 refine z7 ?_
 exact end1 rfl rfl rfl (by
 have hz : st = [] := List.eq_nil_of_length_eq_zero (by omega)
 subst hz
 refine ⟨ol, by rw [hfl]; simp [restS], ?_⟩
 exact (hw.b [row 3 1 (.slice ta _ _) _ _, blk b3 _ _, row 66 _ _ _ _, both _]).tail.tail)
end
def kidsOf (rd : Int → Option Pg) (n : Int) : List Int := match rd n with
 | none => []
 | some p => kidsP p
structure Went (rd : Int → Option Pg) (s t : List Int) : Prop where
 sub : ∀ n ∈ s, n ∈ t
 new : ∀ n ∈ t, n ∈ s ∨ (rd n ≠ none ∧ ∀ k ∈ kidsOf rd n, k ∈ t)
theorem Went.refl (rd : Int → Option Pg) (s : List Int) : Went rd s s := ⟨fun _ h => h, fun _ h => .inl h⟩
theorem Went.trans {rd : Int → Option Pg} {s t u : List Int} (h : Went rd s t) (h' : Went rd t u) : Went rd s u := by
 refine ⟨fun n hn => h'.sub n (h.sub n hn), fun n hn => ?_⟩
 rcases h'.new n hn with h1 | h1
 ·rcases h.new n h1 with h2 | h2
  ·exact .inl h2
  exact .inr ⟨h2.1, fun k hk => h'.sub k (h2.2 k hk)⟩
 exact .inr h1
theorem Went.page {rd : Int → Option Pg} {n : Int} {s t : List Int} {p : Pg} (hp : rd n = some p) (h : Went rd (n :: s) t) (hk : ∀ k ∈ kidsP p, k ∈ t) : Went rd s t := by
 refine ⟨fun m hm => h.sub m (List.mem_cons_of_mem _ hm), fun m hm => ?_⟩
 rcases h.new m hm with h1 | h1
 ·rcases List.mem_cons.1 h1 with rfl | h1
  ·exact .inr ⟨by rw [hp]; simp, by unfold kidsOf; rw [hp]; exact hk⟩
  exact .inl h1
 exact .inr h1
theorem kidsP_blob {p : Pg} (h : p.kind = 3) (hi : p.items = []) : ∀ k ∈ kidsP p, k = p.next ∧ p.next ≠ 0 := by
 intro k hk
 unfold kidsP at hk
 rw [hi] at hk
 simp only [List.filterMap_nil, List.nil_append] at hk
 split at hk
 ·rename_i h1; simp at hk; exact ⟨hk, h1.2⟩
 cases hk
theorem kidsP_index {p : Pg} (h : p.kind = 2) : kidsP p = p.items.map It.child := by
 unfold kidsP
 rw [if_neg (by omega), List.append_nil]
 induction p.items with
 | nil => rfl
 | cons x l ih => rw [List.filterMap_cons, if_pos (.inl h)]; simp only [List.map_cons]; rw [ih]
theorem kidsP_leaf {p : Pg} (h : p.kind = 1) : ∀ k ∈ kidsP p, ∃ x ∈ p.items, x.child = k ∧ k ≠ 0 := by
 intro k hk
 unfold kidsP at hk
 rw [if_neg (by omega), List.append_nil] at hk
 obtain ⟨x, hx, h1⟩ := List.mem_filterMap.1 hk
 split at h1
 ·rename_i h2
  cases h1
  exact ⟨x, hx, rfl, (h2.resolve_left (by omega)).2⟩
 cases h1
theorem check_form {p : Pg} (h : checkP p = 0) : (1 ≤ p.kind ∧ p.kind ≤ 3) ∧ formN p.kind p.level p.next p.items.length p.data.length := by
 unfold checkP at h
 simp only [fst_zero_iff] at h
 exact ⟨(mst_zero (by decide)).1 h.1.1, (mst_zero (by decide)).1 h.1.2⟩
theorem leaf_item {p : Pg} (h : checkP p = 0) (hk : p.kind = 1) : ∀ x ∈ p.items, (0 ≤ x.size ∧ x.size ≤ 3840) ∧ (x.size ≤ 32 → (x.value.length : Int) = x.size ∧ x.child = 0) ∧ (1 ≤ x.key.length ∧ x.key.length ≤ 24) := by
 have key : ∀ (l : List It) (i : Nat) (above : Bys), itsErr p.kind i above l = 0 → ∀ x ∈ l, (0 ≤ x.size ∧ x.size ≤ 3840) ∧ (x.size ≤ 32 → (x.value.length : Int) = x.size ∧ x.child = 0) ∧ (1 ≤ x.key.length ∧ x.key.length ≤ 24) := by
  intro l
  induction l with
  | nil => intro i above _ x hx; cases hx
  | cons y l ih =>
   intro i above he x hx
   simp only [itsErr, fst_zero_iff] at he
   rcases List.mem_cons.1 hx with rfl | hx
   ·have h1 := he.1
    unfold itErr at h1
    simp only [fst_zero_iff] at h1
    have h0 := h1.1
    have h2 := h1.2.2.1
    have h3 := h1.2.2.2
    unfold keyErr at h0
    unfold valErr at h2
    unfold chlErr at h3
    rw [if_neg (by omega)] at h0
    rw [if_neg (by omega)] at h2
    rw [if_neg (by omega)] at h3
    simp only [fst_zero_iff] at h2
    refine ⟨(mst_zero (by decide)).1 h2.1, fun hs => ?_, (mst_zero (by decide)).1 h0⟩
    have h4 := h2.2
    rw [if_pos hs] at h4 h3
    exact ⟨(mst_zero (by decide)).1 h4, (mst_zero (by decide)).1 h3⟩
   exact ih _ _ he.2 x hx
 unfold checkP at h
 simp only [fst_zero_iff] at h
 exact key p.items 0 [] h.2.1
def RdOk (rd : Int → Option Pg) : Prop := ∀ n p, rd n = some p → checkP p = 0
theorem chain_went {rd : Int → Option Pg} (hr : RdOk rd) : ∀ {f : Nat} {left n : Int} {met : List Int}, left ≤ f → (chainC rd f left n met).1 = 0 → Went rd met (chainC rd f left n met).2 ∧ (0 < left → n ∈ (chainC rd f left n met).2)
 | 0, left, n, met, hf, _ => ⟨Went.refl _ _, fun h => by omega⟩
 | f + 1, left, n, met, hf, h => by
  rw [chainC] at h ⊢
  split at h
  ·rename_i h0; rw [if_pos h0]; exact ⟨Went.refl _ _, fun h => by omega⟩
  rename_i h0
  rw [if_neg h0]
  cases he : enterC rd met n with
  | none => rw [he] at h; cases h
  | some p =>
   rw [he] at h
   simp only at h ⊢
   split at h
   ·cases h
   rename_i h1
   rw [if_neg h1]
   split at h
   ·cases h
   rename_i h2
   rw [if_neg h2]
   obtain ⟨h3, h4⟩ := chain_went hr (by omega) h
   obtain ⟨hk, hp⟩ := enterC_some he
   have h2 := Decidable.not_not.1 h2
   have h1 := Decidable.not_not.1 h1
   have hfm := (check_form (hr n p hp)).2.2.2 (by omega) (by omega)
   refine ⟨Went.page hp h3 fun k hk => ?_, fun _ => h3.sub n (List.mem_cons_self ..)⟩
   obtain ⟨rfl, h5⟩ := kidsP_blob h1 (List.eq_nil_of_length_eq_zero hfm.2.1) k hk
   exact h4 (by have := h2.2; omega)
theorem chain_load {rd : Int → Option Pg} {size : Int} : ∀ {f : Nat} {n : Int} {met : List Int} {out : Bys}, (chainC rd f (size - out.length) n met).1 = 0 → (loadG rd size f n out).1 = 0
 | 0, n, met, out, _ => rfl
 | f + 1, n, met, out, h => by
  rw [chainC] at h
  rw [loadG]
  split at h
  ·rw [if_pos (by omega)]
  rename_i h0
  rw [if_neg (by omega)]
  cases he : enterC rd met n with
  | none => rw [he] at h; cases h
  | some p =>
   rw [he] at h
   obtain ⟨-, hp⟩ := enterC_some he
   rw [hp]
   simp only at h ⊢
   split at h
   ·cases h
   rename_i h1
   rw [if_neg h1]
   split at h
   ·cases h
   rename_i h2
   have h2 := Decidable.not_not.1 h2
   have hq : size - (out.length : Int) - min 480 (size - out.length) = 0 ↔ size - (out.length : Int) ≤ 480 := by omega
   have hq2 := h2.2
   rw [hq] at hq2
   rw [if_neg (not_not_intro ⟨by omega, hq2⟩)]
   refine chain_load (met := n :: met) ?_
   have e : size - ((out ++ p.data).length : Int) = size - out.length - min 480 (size - out.length) := by rw [List.length_append]; omega
   rw [e]; exact h
theorem item_went {rd : Int → Option Pg} (hr : RdOk rd) {x : It} {r : Rg} {s : List Int × Int} (h : (itemC rd x r s).1 = 0) (hx : (0 ≤ x.size ∧ x.size ≤ 3840) ∧ (x.size ≤ 32 → (x.value.length : Int) = x.size ∧ x.child = 0)) : hasR r x.key ∧ Went rd s.1 (itemC rd x r s).2.1 ∧ (itemC rd x r s).2.2 = s.2 + 1 ∧ (x.child ≠ 0 → x.child ∈ (itemC rd x r s).2.1) ∧ (loadB rd x).1 = 0 := by
 unfold itemC at h ⊢
 split at h
 ·cases h
 rename_i h0
 rw [if_neg h0]
 have h0 := Decidable.not_not.1 h0
 split at h
 ·rename_i h1
  rw [if_pos h1]
  have h2 := hx.2 h1
  refine ⟨h0, Went.refl _ _, rfl, fun h => absurd h2.2 h, ?_⟩
  unfold loadB
  rw [if_neg (by omega), if_pos h1]
 rename_i h1
 rw [if_neg h1]
 have h2 := chain_went hr (by omega) h
 refine ⟨h0, h2.1, rfl, fun _ => h2.2 (by omega), ?_⟩
 unfold loadB
 rw [if_neg (by omega), if_neg h1]
 exact chain_load (met := s.1) (by simpa using h)
theorem fold_went {α : Type} {rd : Int → Option Pg} {g : Nat → α → List Int × Int → Int × List Int × Int} {Q : Nat → α → List Int → Prop} {cnt : α → Nat} (hQ : ∀ {i x t u}, Q i x t → Went rd t u → Q i x u) : ∀ {l : List α} {i : Nat} {s : List Int × Int}, (∀ j x s, l[j]? = some x → (g (i + j) x s).1 = 0 → Went rd s.1 (g (i + j) x s).2.1 ∧ (g (i + j) x s).2.2 = s.2 + cnt x ∧ Q (i + j) x (g (i + j) x s).2.1) → (foldC g i l s).1 = 0 → Went rd s.1 (foldC g i l s).2.1 ∧ (foldC g i l s).2.2 = s.2 + ((l.map cnt).sum : Nat) ∧ ∀ j x, l[j]? = some x → Q (i + j) x (foldC g i l s).2.1
 | [], i, s, _, _ => ⟨Went.refl _ _, by simp [foldC], fun j x h => by simp at h⟩
 | y :: l, i, s, hg, h => by
  rw [foldC] at h ⊢
  split at h
  ·rename_i h0; exact absurd h h0
  rename_i h0
  rw [if_neg h0]
  have h0 := Decidable.not_not.1 h0
  obtain ⟨h1, h2, h3⟩ := hg 0 y s rfl h0
  obtain ⟨h4, h5, h6⟩ := fold_went (rd := rd) (g := g) (Q := Q) (cnt := cnt) hQ (l := l) (i := i + 1) (s := (g i y s).2) (fun j x s hx hh => by
    have h7 := hg (j + 1) x s (by simpa using hx)
    rw [show i + (j + 1) = i + 1 + j by omega] at h7
    exact h7 hh) h
  refine ⟨h1.trans h4, ?_, fun j x hx => ?_⟩
  ·rw [h5]; simp only [Nat.add_zero] at h2; rw [h2]; simp only [List.map_cons, List.sum_cons]; omega
  cases j with
  | zero => simp at hx; subst hx; exact hQ h3 h4
  | succ j =>
   have h7 := h6 j x (by simpa using hx)
   rw [show i + (j + 1) = i + 1 + j by omega]
   exact h7
def keysIn (rd : Int → Option Pg) : Nat → Int → Rg → Prop
 | 0, n, r => ∃ p, rd n = some p ∧ (1 ≤ p.items.length) ∧ ∀ x ∈ p.items, hasR r x.key
 | k + 1, n, r => ∃ p, rd n = some p ∧ (1 ≤ p.items.length) ∧ ∀ (i : Nat) (x : It), p.items[i]? = some x → keysIn rd k x.child (meetR r (ownR p i))
theorem page_went {rd : Int → Option Pg} (hr : RdOk rd) : ∀ {k : Nat} {n least : Int} {r : Rg} {s : List Int × Int}, (pageC rd k n least r s).1 = 0 → Went rd s.1 (pageC rd k n least r s).2.1 ∧ (pageC rd k n least r s).2.2 = s.2 + (flatT rd k n).length ∧ n ∈ (pageC rd k n least r s).2.1 ∧ soundT rd k n ∧ keysIn rd k n r := by
 intro k
 induction k with
 | zero =>
  intro n least r s h
  cases he : enterC rd s.1 n with
  | none => rw [pageC_none he] at h; cases h
  | some p =>
   obtain ⟨-, hp⟩ := enterC_some he
   rw [pageC_some he] at h ⊢
   split at h
   ·cases h
   rename_i h0
   rw [if_neg h0]
   split at h
   ·cases h
   rename_i h1
   rw [if_neg h1]
   have hk : p.kind = 1 := by
    unfold wrongC at h0; rw [if_pos rfl] at h0; exact Decidable.not_not.1 h0
   have hli := leaf_item (hr n p hp) hk
   obtain ⟨h2, h3, h4⟩ := fold_went (rd := rd) (g := stepC rd 0 p r) (cnt := fun _ => 1) (Q := fun _ x t => hasR r x.key ∧ (x.child ≠ 0 → x.child ∈ t) ∧ (loadB rd x).1 = 0) (fun hq hw => ⟨hq.1, fun h => hw.sub _ (hq.2.1 h), hq.2.2⟩) (fun j x s hx hh => by
      obtain ⟨a, b, c, d, e⟩ := item_went hr (show (itemC rd x r s).1 = 0 from hh) ⟨(hli x (List.mem_of_getElem? hx)).1, (hli x (List.mem_of_getElem? hx)).2.1⟩
      exact ⟨b, c, a, d, e⟩) h
   have hall : ∀ x ∈ p.items, hasR r x.key ∧ (x.child ≠ 0 → x.child ∈ (foldC (stepC rd 0 p r) 0 p.items (n :: s.1, s.2)).2.1) ∧ (loadB rd x).1 = 0 := fun x hx => by
    obtain ⟨j, hj⟩ := List.getElem?_of_mem hx
    exact h4 j x hj
   refine ⟨Went.page hp h2 fun c hc => ?_, ?_, h2.sub n (List.mem_cons_self ..), ⟨p, hp, hk, fun x hx => (hall x hx).2.2⟩, ⟨p, hp, ((check_items (hr n p hp)).2.2.1 hk), fun x hx => (hall x hx).1⟩⟩
   ·obtain ⟨x, hx, rfl, hn⟩ := kidsP_leaf hk c hc
    exact (hall x hx).2.1 hn
   have hones : ∀ l : List It, (l.map fun _ => 1).sum = l.length := by
    intro l
    induction l with
    | nil => rfl
    | cons x l ih => rw [List.map_cons, List.sum_cons, ih, List.length_cons]; omega
   rw [h3, flatT, hp, hones]; simp
 | succ k ih =>
  intro n least r s h
  cases he : enterC rd s.1 n with
  | none => rw [pageC_none he] at h; cases h
  | some p =>
   obtain ⟨-, hp⟩ := enterC_some he
   rw [pageC_some he] at h ⊢
   split at h
   ·cases h
   rename_i h0
   rw [if_neg h0]
   split at h
   ·cases h
   rename_i h1
   rw [if_neg h1]
   have hk : p.kind = 2 := by
    unfold wrongC at h0; rw [if_neg (by omega)] at h0; exact (Decidable.not_not.1 h0).1
   obtain ⟨h2, h3, h4⟩ := fold_went (rd := rd) (g := stepC rd (k + 1) p r) (cnt := fun x => (flatT rd k x.child).length) (Q := fun i x t => x.child ∈ t ∧ soundT rd k x.child ∧ keysIn rd k x.child (meetR r (ownR p i))) (fun hq hw => ⟨hw.sub _ hq.1, hq.2⟩) (fun j x s hx hh => by
      obtain ⟨a, b, c, d, e⟩ := ih (show (pageC rd k x.child 4 (meetR r (ownR p (0 + j))) s).1 = 0 from hh)
      exact ⟨a, b, c, d, e⟩) h
   have hall : ∀ x ∈ p.items, x.child ∈ (foldC (stepC rd (k + 1) p r) 0 p.items (n :: s.1, s.2)).2.1 ∧ soundT rd k x.child := fun x hx => by
    obtain ⟨j, hj⟩ := List.getElem?_of_mem hx
    exact ⟨(h4 j x hj).1, (h4 j x hj).2.1⟩
   refine ⟨Went.page hp h2 fun c hc => ?_, ?_, h2.sub n (List.mem_cons_self ..), ⟨p, hp, hk, fun x hx => (hall x hx).2⟩, ⟨p, hp, by have := (check_items (hr n p hp)).2.1 hk; omega, fun i x hx => by have := (h4 i x hx).2.2; rwa [Nat.zero_add] at this⟩⟩
   ·rw [kidsP_index hk] at hc
    obtain ⟨x, hx, rfl⟩ := List.mem_map.1 hc
    exact (hall x hx).1
   rw [h3, flatT, hp]
   simp only [List.length_flatMap]
theorem chain_len {rd : Int → Option Pg} : ∀ {f : Nat} {left n : Int} {met : List Int}, met.length ≤ (chainC rd f left n met).2.length
 | 0, _, _, _ => Nat.le_refl _
 | f + 1, left, n, met => by
  rw [chainC]
  split
  ·exact Nat.le_refl _
  cases he : enterC rd met n with
  | none => exact Nat.le_refl _
  | some p =>
   simp only
   split
   ·simp
   split
   ·simp
   exact Nat.le_trans (by simp) (chain_len (f := f) (left := left - min 480 left) (n := p.next) (met := n :: met))
theorem item_len {rd : Int → Option Pg} {x : It} {r : Rg} {s : List Int × Int} : s.1.length ≤ (itemC rd x r s).2.1.length := by
 unfold itemC
 split
 ·exact Nat.le_refl _
 split
 ·exact Nat.le_refl _
 exact chain_len
theorem fold_num {α : Type} {g : Nat → α → List Int × Int → Int × List Int × Int} {cnt : α → Nat} (hg : ∀ i x s, (g i x s).1 = 0 → s.1.length + cnt x ≤ (g i x s).2.1.length) : ∀ {l : List α} {i : Nat} {s : List Int × Int}, (foldC g i l s).1 = 0 → s.1.length + (l.map cnt).sum ≤ (foldC g i l s).2.1.length
 | [], i, s, _ => by simp [foldC]
 | y :: l, i, s, h => by
  rw [foldC] at h ⊢
  split at h
  ·rename_i h0; exact absurd h h0
  rename_i h0
  rw [if_neg h0]
  have h1 := hg i y s (Decidable.not_not.1 h0)
  have h2 := fold_num (g := g) (cnt := cnt) hg (l := l) (i := i + 1) (s := (g i y s).2) h
  simp only [List.map_cons, List.sum_cons]; omega
theorem page_num {rd : Int → Option Pg} : ∀ {k : Nat} {n least : Int} {r : Rg} {s : List Int × Int}, (pageC rd k n least r s).1 = 0 → s.1.length + numT rd k n ≤ (pageC rd k n least r s).2.1.length := by
 intro k
 induction k with
 | zero =>
  intro n least r s h
  cases he : enterC rd s.1 n with
  | none => rw [pageC_none he] at h; cases h
  | some p =>
   rw [pageC_some he] at h ⊢
   split at h
   ·cases h
   rename_i h0
   rw [if_neg h0]
   split at h
   ·cases h
   rename_i h1
   rw [if_neg h1]
   have h2 := fold_num (g := stepC rd 0 p r) (cnt := fun _ => 0) (fun i x s _ => item_len (rd := rd) (x := x) (r := r) (s := s)) h
   rw [numT]; simp only [List.length_cons] at h2; omega
 | succ k ih =>
  intro n least r s h
  cases he : enterC rd s.1 n with
  | none => rw [pageC_none he] at h; cases h
  | some p =>
   obtain ⟨-, hp⟩ := enterC_some he
   rw [pageC_some he] at h ⊢
   split at h
   ·cases h
   rename_i h0
   rw [if_neg h0]
   split at h
   ·cases h
   rename_i h1
   rw [if_neg h1]
   have h2 := fold_num (g := stepC rd (k + 1) p r) (cnt := fun x => numT rd k x.child) (fun i x s hh => ih hh) h
   rw [numT, hp]; simp only [List.length_cons] at h2 ⊢; omega
structure Stands (rd : Int → Option Pg) (t : Tr) (M : List Int) : Prop where
 form : treeForm t
 sound : soundT rd (t.height - 1).toNat t.root
 keys : keysIn rd (t.height - 1).toNat t.root rgAll
 items : ((flatT rd (t.height - 1).toNat t.root).length : Int) = t.items
 nd : M.Nodup
 th : ∀ n ∈ M, rd n ≠ none
 root : t.root ∈ M
 kids : ∀ n ∈ M, ∀ k ∈ kidsOf rd n, k ∈ M
 num : numT rd (t.height - 1).toNat t.root ≤ M.length
 many : t.items ≤ 8 * M.length
theorem chk_stands {rd : Int → Option Pg} (hr : RdOk rd) {t : Tr} (h : chkT rd t = 0) : treeNone t ∨ ∃ M, Stands rd t M := by
 by_cases hn : treeNone t
 ·exact .inl hn
 refine .inr ?_
 unfold chkT at h
 rw [if_neg hn] at h
 by_cases hf : treeForm t
 ·rw [if_neg (not_not_intro hf)] at h
  simp only at h
  split at h
  ·rename_i h0; exact absurd h h0
  rename_i h0
  split at h
  ·cases h
  rename_i h1
  have h0 := Decidable.not_not.1 h0
  have h1 := Decidable.not_not.1 h1
  obtain ⟨h2, h3, h4, h5, h6⟩ := page_went hr h0
  have h7 := page_num h0
  have h8 := Ks.page (rd := rd) (d := 0) (fun n p hp => (check_items (hr n p hp)).1) (k := (t.height - 1).toNat) (n := t.root) (least := lsD 1 (t.height - 1).toNat) (r := rgAll) (s := ([], 0)) ⟨by decide, by decide, List.nodup_nil, (fun n hn => by cases hn)⟩
  rw [h1] at h3
  have h9 := h8.hi
  rw [h1] at h9
  refine ⟨_, hf, h5, h6, by simp only [Int.zero_add] at h3; exact h3.symm, h8.nd, h8.th, h4, fun n hn k hk => ?_, by simpa using h7, by simpa using h9⟩
  rcases h2.new n hn with h10 | h10
  ·cases h10
  exact h10.2 k hk
 rw [if_pos hf] at h; cases h
def cntsR (N : Nat) (A : List Int) : List Int := (List.range (N + 1)).map fun (i : Nat) => ((A.count (i : Int) : Nat) : Int)
theorem cntsR_len (N : Nat) (A : List Int) : (cntsR N A).length = N + 1 := by simp [cntsR]
theorem cntsR_get {N : Nat} {A : List Int} {i : Nat} (h : i ≤ N) : (cntsR N A)[i]? = some ((A.count (i : Int) : Nat) : Int) := by
 unfold cntsR
 rw [List.getElem?_map, List.getElem?_range (by omega)]; rfl
theorem cntsR_nil (N : Nat) : cntsR N [] = List.replicate (N + 1) 0 := by
 apply List.ext_getElem?
 intro i
 by_cases h : i ≤ N
 ·rw [cntsR_get h, List.getElem?_replicate, if_pos (by omega)]; rfl
 rw [List.getElem?_eq_none (by rw [cntsR_len]; omega), List.getElem?_eq_none (by simp; omega)]
theorem cntsR_set {N : Nat} {A : List Int} {a : Int} (h : 0 ≤ a ∧ a ≤ N) : (cntsR N A).set a.toNat ((A.count a : Nat) + 1 : Int) = cntsR N (A ++ [a]) := by
 apply List.ext_getElem?
 intro i
 by_cases hi : i ≤ N
 ·rw [List.getElem?_set, cntsR_get hi, cntsR_get hi, List.count_append]
  by_cases h2 : a.toNat = i
  ·rw [if_pos h2, if_pos (by rw [cntsR_len]; omega)]
   have : a = (i : Int) := by omega
   subst this
   simp
  rw [if_neg h2]
  have : ¬ a = (i : Int) := by omega
  simp [List.count_cons, this]
 rw [List.getElem?_eq_none (by rw [List.length_set, cntsR_len]; omega), List.getElem?_eq_none (by rw [cntsR_len]; omega)]
def rootsOf (ts : List Tr) : List Int := (ts.map Tr.root).filter fun n => decide (0 < n)
theorem rootsOf_snoc (ts : List Tr) (t : Tr) : rootsOf (ts ++ [t]) = rootsOf ts ++ (if 0 < t.root then [t.root] else []) := by
 unfold rootsOf
 rw [List.map_append, List.filter_append]
 by_cases h : 0 < t.root <;> simp [h]
theorem rootsOf_len (ts : List Tr) : (rootsOf ts).length ≤ ts.length := by
 unfold rootsOf
 exact Nat.le_trans (List.length_filter_le _ _) (by simp)
def sumI (l : List Int) : Int := l.foldl (· + ·) 0
theorem sumI_snoc (l : List Int) (x : Int) : sumI (l ++ [x]) = sumI l + x := by unfold sumI; rw [List.foldl_append]; rfl
def lensP (l : List Pr) : Int := sumI (l.map fun x => (x.2.length : Int))
theorem lensP_snoc (l : List Pr) (x : Pr) : lensP (l ++ [x]) = lensP l + x.2.length := by unfold lensP; rw [List.map_append, List.map_cons, List.map_nil, sumI_snoc]
def flatR (rd : Int → Option Pg) (t : Tr) : List Pr := if t.root = 0 then [] else flatT rd (t.height - 1).toNat t.root
def kindOf (rd : Int → Option Pg) (n : Int) : Int := match rd n with
 | none => 0
 | some p => p.kind
def cntK (rd : Int → Option Pg) (k : Int) (W : List Int) : Int := ((W.filter fun n => decide (kindOf rd n = k)).length : Int)
def cntB (rd : Int → Option Pg) (W : List Int) : Int := ((W.filter fun n => decide (¬ kindOf rd n = 1 ∧ ¬ kindOf rd n = 2)).length : Int)
theorem cntK_snoc (rd : Int → Option Pg) (k : Int) (W : List Int) (n : Int) : cntK rd k (W ++ [n]) = cntK rd k W + (if kindOf rd n = k then 1 else 0) := by
 unfold cntK
 rw [List.filter_append, List.length_append]
 by_cases h : kindOf rd n = k <;> simp [h]
theorem cntB_snoc (rd : Int → Option Pg) (W : List Int) (n : Int) : cntB rd (W ++ [n]) = cntB rd W + (if ¬ kindOf rd n = 1 ∧ ¬ kindOf rd n = 2 then 1 else 0) := by
 unfold cntB
 rw [List.filter_append, List.length_append]
 by_cases h : ¬ kindOf rd n = 1 ∧ ¬ kindOf rd n = 2
 ·rw [if_pos h]; simp [h]
 rw [if_neg h, List.filter_cons, if_neg (by simpa using h)]; simp
theorem cntK_le (rd : Int → Option Pg) (k : Int) (W : List Int) : 0 ≤ cntK rd k W ∧ cntK rd k W ≤ W.length := by
 unfold cntK
 have := List.length_filter_le (fun n => decide (kindOf rd n = k)) W
 omega
theorem cntB_le (rd : Int → Option Pg) (W : List Int) : 0 ≤ cntB rd W ∧ cntB rd W ≤ W.length := by
 unfold cntB
 have := List.length_filter_le (fun n => decide (¬ kindOf rd n = 1 ∧ ¬ kindOf rd n = 2)) W
 omega
def rpZ : Rp := ⟨0, 0, 0, 0, 0, 0, 0, []⟩
def rpOf (rd : Int → Option Pg) (ts us : List Tr) (W : List Int) : Rp := ⟨ts.length, W.length, cntK rd 1 W, cntK rd 2 W, cntB rd W, sumI (us.map Tr.items), sumI (us.map fun t => lensP (flatR rd t)), []⟩
structure Led (rd : Int → Option Pg) (roots W A : List Int) : Prop where
 nd : W.Nodup
 arr : A = roots ++ W.flatMap (kidsOf rd)
 sub : ∀ a ∈ A, a ∈ W
 inn : ∀ n ∈ W, n ∈ A
 min : ∀ U : Int → Prop, (∀ r ∈ roots, U r) → (∀ n, U n → ∀ k ∈ kidsOf rd n, U k) → ∀ n ∈ W, U n
structure Leads (rd : Int → Option Pg) (roots W st A : List Int) : Prop where
 nd : W.Nodup
 arr : A = roots ++ W.flatMap (kidsOf rd)
 sub : ∀ a ∈ A, a ∈ W ∨ a ∈ st
 inn : ∀ n, n ∈ W ∨ n ∈ st → n ∈ A
 min : ∀ U : Int → Prop, (∀ r ∈ roots, U r) → (∀ n, U n → ∀ k ∈ kidsOf rd n, U k) → ∀ n, n ∈ W ∨ n ∈ st → U n
theorem Leads.start (rd : Int → Option Pg) (roots : List Int) : Leads rd roots [] roots roots :=
 ⟨List.nodup_nil, by simp, fun a h => .inr h, fun n h => h.resolve_left (by simp), fun U h _ n hn => h n (hn.resolve_left (by simp))⟩
theorem Leads.done {rd : Int → Option Pg} {roots W A : List Int} (h : Leads rd roots W [] A) : Led rd roots W A :=
 ⟨h.nd, h.arr, fun a ha => (h.sub a ha).resolve_right (by simp), fun n hn => h.inn n (.inl hn), fun U h1 h2 n hn => h.min U h1 h2 n (.inl hn)⟩
theorem Leads.skip {rd : Int → Option Pg} {roots W st A : List Int} {n : Int} (h : Leads rd roots W (st ++ [n]) A) (hn : n ∈ W) : Leads rd roots W st A := by
 refine ⟨h.nd, h.arr, fun a ha => ?_, fun m hm => h.inn m (hm.imp id (fun h => List.mem_append_left _ h)), fun U h1 h2 m hm => h.min U h1 h2 m (hm.imp id (fun h => List.mem_append_left _ h))⟩
 rcases h.sub a ha with h1 | h1
 ·exact .inl h1
 rcases List.mem_append.1 h1 with h1 | h1
 ·exact .inr h1
 simp at h1; subst h1; exact .inl hn
theorem Leads.visit {rd : Int → Option Pg} {roots W st A : List Int} {n : Int} (h : Leads rd roots W (st ++ [n]) A) (hn : n ∉ W) : Leads rd roots (W ++ [n]) (st ++ kidsOf rd n) (A ++ kidsOf rd n) := by
 have hA := h.inn n (.inr (by simp))
 refine ⟨?_, ?_, fun a ha => ?_, fun m hm => ?_, fun U h1 h2 m hm => ?_⟩
 ·rw [List.nodup_append]
  exact ⟨h.nd, by simp, fun a ha b hb => by simp at hb; subst hb; intro e; subst e; exact hn ha⟩
 ·rw [h.arr, List.flatMap_append]; simp
 ·rcases List.mem_append.1 ha with ha | ha
  ·rcases h.sub a ha with h1 | h1
   ·exact .inl (List.mem_append_left _ h1)
   rcases List.mem_append.1 h1 with h1 | h1
   ·exact .inr (List.mem_append_left _ h1)
   exact .inl (List.mem_append_right _ h1)
  exact .inr (List.mem_append_right _ ha)
 ·rcases hm with hm | hm
  ·rcases List.mem_append.1 hm with hm | hm
   ·exact List.mem_append_left _ (h.inn m (.inl hm))
   simp at hm; subst hm; exact List.mem_append_left _ hA
  rcases List.mem_append.1 hm with hm | hm
  ·exact List.mem_append_left _ (h.inn m (.inr (List.mem_append_left _ hm)))
  exact List.mem_append_right _ hm
 have hu := h.min U h1 h2
 rcases hm with hm | hm
 ·rcases List.mem_append.1 hm with hm | hm
  ·exact hu m (.inl hm)
  simp at hm; subst hm; exact hu m (.inr (by simp))
 rcases List.mem_append.1 hm with hm | hm
 ·exact hu m (.inr (List.mem_append_left _ hm))
 exact h2 n (hu n (.inr (by simp))) m hm
def CFits (c A : List Int) : Prop := ∀ (i : Nat) (x : Int), c[i]? = some x → ((A.count ((i : Int) + 1) : Nat) : Int) = x
def WholeR (rd : Int → Option Pg) (c : List Int) (ts : List Tr) (rp : Rp) (er : Int) : Prop :=
 ((∃ t ∈ ts, chkT rd t ≠ 0) ∧ rp = rpZ ∧ er = 18) ∨ ((∀ t ∈ ts, chkT rd t = 0) ∧ ∃ W A, Led rd (rootsOf ts) W A ∧
  ((CFits c A ∧ rp = rpOf rd ts ts W ∧ er = 0) ∨ (¬ CFits c A ∧ rp = rpZ ∧ er = 18)))
theorem kidsP_le {p : Pg} (h : checkP p = 0) : (kidsP p).length ≤ 8 := by
 obtain ⟨h1, h2⟩ := check_form h
 unfold kidsP
 rw [List.length_append]
 have h3 := List.length_filterMap_le (fun x : It => if p.kind = 2 ∨ (p.kind = 1 ∧ x.child ≠ 0) then some x.child else none) p.items
 by_cases hk : p.kind = 3 ∧ p.next ≠ 0
 ·rw [if_pos hk]
  have := h2.2.2 (by omega) (by omega)
  simp only [List.length_cons, List.length_nil]; omega
 rw [if_neg hk]
 have := (check_items h).1
 simp only [List.length_nil]; omega
theorem loadG_le {rd : Int → Option Pg} {size : Int} : ∀ {f : Nat} {n : Int} {out : Bys}, (out.length : Int) ≤ max size 0 → ((loadG rd size f n out).2.length : Int) ≤ max size 0
 | 0, n, out, h => h
 | f + 1, n, out, h => by
  rw [loadG]
  split
  ·exact h
  cases rd n with
  | none => simp; omega
  | some p =>
   simp only
   split
   ·simp; omega
   split
   ·simp; omega
   rename_i h2
   have h2 := Decidable.not_not.1 h2
   exact loadG_le (by rw [List.length_append]; omega)
theorem loadB_le (rd : Int → Option Pg) (x : It) : (loadB rd x).2.length ≤ 3840 := by
 unfold loadB
 split
 ·simp
 rename_i h
 split
 ·simp only; omega
 have := loadG_le (rd := rd) (size := x.size) (f := x.size.toNat) (n := x.child) (out := []) (by simp; omega)
 omega
theorem flatT_vals {rd : Int → Option Pg} : ∀ {k : Nat} {n : Int}, ∀ x ∈ flatT rd k n, x.2.length ≤ 3840
 | 0, n, x, hx => by
  rw [flatT] at hx
  cases h : rd n with
  | none => rw [h] at hx; cases hx
  | some p =>
   rw [h] at hx
   obtain ⟨y, hy, rfl⟩ := List.mem_map.1 hx
   exact loadB_le rd y
 | k + 1, n, x, hx => by
  rw [flatT] at hx
  cases h : rd n with
  | none => rw [h] at hx; cases hx
  | some p =>
   rw [h] at hx
   obtain ⟨y, hy, h2⟩ := List.mem_flatMap.1 hx
   exact flatT_vals x h2
theorem lensP_le : ∀ {l : List Pr}, (∀ x ∈ l, x.2.length ≤ 3840) → 0 ≤ lensP l ∧ lensP l ≤ 3840 * l.length := by
 have key : ∀ n, ∀ l : List Pr, l.length = n → (∀ x ∈ l, x.2.length ≤ 3840) → 0 ≤ lensP l ∧ lensP l ≤ 3840 * l.length := by
  intro n
  induction n with
  | zero => intro l hl _; rw [List.eq_nil_of_length_eq_zero hl]; exact ⟨by decide, by decide⟩
  | succ n ih =>
   intro l hl h
   obtain ⟨l0, x, rfl⟩ : ∃ l0 x, l = l0 ++ [x] := ⟨l.dropLast, l.getLast (by intro e; subst e; simp at hl), (List.dropLast_concat_getLast _).symm⟩
   have h1 := ih l0 (by simpa using hl) (fun y hy => h y (List.mem_append_left _ hy))
   have h2 := h x (by simp)
   rw [lensP_snoc, List.length_append]
   simp only [List.length_cons, List.length_nil]; omega
 exact fun {l} h => key l.length l rfl h
theorem RvIs.rok {rd : Int → Option Pg} {v : RvV} {S : List PgV} (h : RvIs rd v S) : RdOk rd := fun n p hp => by
 obtain ⟨pg, -, -, -, h4, h5⟩ := h.yes n (h.th (by rw [hp]; simp))
 rw [hp] at h4
 cases h4
 exact h5
theorem stands_le {rd : Int → Option Pg} {v : RvV} {S : List PgV} (hI : RvIs rd v S) {t : Tr} (h : chkT rd t = 0) : (0 ≤ t.items ∧ t.items ≤ 524288) ∧ ((flatR rd t).length : Int) = t.items ∧ (t.root ≠ 0 → soundT rd (t.height - 1).toNat t.root ∧ (flatT rd (t.height - 1).toNat t.root).length ≤ 1000000000 ∧ numT rd (t.height - 1).toNat t.root ≤ 1000000000) ∧ (t.root = 0 ∨ (0 < t.root ∧ t.root ≤ (v.c.length : Int))) := by
 rcases chk_stands hI.rok h with h1 | ⟨M, h1⟩
 ·have h2 := h1
  unfold treeNone at h2
  have e : flatR rd t = [] := by unfold flatR; rw [if_pos h2.1]
  exact ⟨by omega, by rw [e]; simp; omega, fun h => absurd h2.1 h, .inl h2.1⟩
 have h2 := hI.met_le h1.nd h1.th
 have h3 := h1.many
 have h4 := h1.form
 unfold treeForm at h4
 have h5 := h1.items
 have h6 := h1.num
 have h7 := cntP_in (hI.th (h1.th _ h1.root))
 have e : flatR rd t = flatT rd (t.height - 1).toNat t.root := by unfold flatR; rw [if_neg h4.1]
 exact ⟨by omega, by rw [e]; exact h5, fun _ => ⟨h1.sound, by omega, by omega⟩, .inr (by omega)⟩
theorem flatR_lens {rd : Int → Option Pg} {t : Tr} : 0 ≤ lensP (flatR rd t) ∧ lensP (flatR rd t) ≤ 3840 * (flatR rd t).length := by
 unfold flatR
 split
 ·exact ⟨by decide, by decide⟩
 exact lensP_le flatT_vals
theorem prs_form {ol : List PrV} {G : Gh} {R : List Assn} {w : World} (hw : Sat G (both (ol.flatMap prParts) :: R) w) {x : PrV} (hx : x ∈ ol) : ∃ a c, x.vv = .slice a x.pr.2.length c := by
 obtain ⟨A, B, rfl⟩ := List.append_of_mem hx
 rw [List.flatMap_append, List.flatMap_cons] at hw
 have h1 := hw.both_out
 rw [List.append_assoc] at h1
 have h2 : Sat G (both (A.flatMap prParts) :: (prParts x ++ B.flatMap prParts ++ R)) w := Sat.both_in h1
 have h3 : Sat G (row 5 1 x.kv x.pr.1.length (bys x.pr.1) :: row 5 1 x.vv x.pr.2.length (bys x.pr.2) :: (B.flatMap prParts ++ R)) w := by
  have h4 := h2.tail
  rw [List.append_assoc] at h4
  exact h4
 exact row_form h3.tail
section
variable {G : Gh} {L R : List Assn} {w : World}
theorem ct_ref22_Whole {q : Nat} {v : RvV} {rd : Int → Option Pg} {S : List PgV} {lv : Value} {l : List (Int × Tr)} (hI : RvIs rd v S) (hw : Sat G (rvP q v (stO S :: L)) w) (kl : Knows L (SlT 4 lv (l.map rootC))) (hll : l.length ≤ 1000) :
  Calls Tryz.prog 10 #[.pointer (some ⟨q, 0, none⟩), lv] w (Ret fun r w' => ∃ rp er, r = .tuple #[.agg (RpV.cells ⟨rp, .slice none 0 0⟩).toArray, .int .i64 er] ∧ WholeR rd v.c (l.map (·.2)) rp er ∧ rp.bad = [] ∧ Sat G (rvP q v (stO S :: L)) w') := by
 obtain ⟨pb, pc, hpv⟩ := hI.pv (hw.b [blk q _ _, row 3 1 v.cv _ _, row 4 1 v.lv _ _, row 75 _ _ _ _])
 have hN := hI.len
 have hP := hI.plen
 have hsl : ∀ R, Knows (row 75 5 v.pv v.p.length (v.p.map PgV.cells).flatten :: R) (SlT 5 (.slice (some ⟨pb, 0, none⟩) v.p.length pc) (v.p.map PgV.cells)) := fun R => by
  rw [hpv]; exact (SlT.row (by simp) (pgs_z v.p)).head R
 obtain ⟨ra, rc, hrv, -, -⟩ := (kl.at hw.tail.tail.tail.tail.tail).form
 rw [List.length_map] at hrv
 subst hrv
 refine calls_of_x (args := [_, _]) Tryz.func10 rfl Tryz.ntmps10 rfl rfl ?_
 refine z2 ?_
 refine x_alloc rfl rfl trivial z_api_Report hw rfl (fun w b4 hw => ?_)
 refine z5 ?_
 refine x_call rfl rfl trivial cal_ref11_Vault_Len rfl (ct_ref11_Vault_Len (q := q) (v := v) (hw.b [blk q _ _, row 3 1 v.cv _ _, row 4 1 v.lv _ _, row 75 _ _ _ _])) rfl (fun w v18 hv => ?_)
 obtain ⟨rfl, hw⟩ := hv
 refine z1 ?_
 refine x_mks rfl rfl trivial U_sl_int sz_int by_int z_int rfl rfl ⟨by omega, by omega⟩ (by omega) (by omega) hw rfl (fun w b20 hw => ?_)
 have hnm : ((v.c.length : Int) + 1).toNat = v.c.length + 1 := by omega
 rw [hnm] at hw
 rw [hnm]
 have hbl : rep (v.c.length + 1) (Value.int .i64 0) = ints (cntsR v.c.length []) ++ [] := by rw [cntsR_nil]; simp [ints, rep]
 rw [hbl] at hw
 have hw := row_mk (z := 1) (m := v.c.length + 1) (cap := v.c.length + 1) hw (by simp [ints, cntsR_len]) (Nat.le_refl _) (by simp only [maxLen]; omega) (by simp [ints, cntsR_len])
 refine z5 ?_
 refine x_len rfl rfl trivial (by kernel_rfl) U_sl_api_Root rfl ?_
 refine x_build (v := .agg #[.int .i64 l.length, .int .i64 0, .int .i64 0, .int .i64 0, .int .i64 0, .int .i64 0, .int .i64 0, .slice none 0 0]) rfl rfl trivial rfl (fun w => by kernel_rfl) ?_
 refine x_alloc rfl rfl trivial z_api_Report hw rfl (fun w b7 hw => ?_)
 refine x_stN (cs := [.int .i64 l.length, .int .i64 0, .int .i64 0, .int .i64 0, .int .i64 0, .int .i64 0, .int .i64 0, .slice none 0 0]) (l' := [.int .i64 l.length, .int .i64 0, .int .i64 0, .int .i64 0, .int .i64 0, .int .i64 0, .int .i64 0, .slice none 0 0]) rfl trivial rfl rfl many_api_Report rfl (by intro u hu; simp at hu; rcases hu with rfl | rfl | rfl | rfl <;> rfl) hw pK (by simp) rfl rfl (fun w hw => ?_)
 refine z11 ?_
 have hw := row_nil hw 3 1
 have hw := hw.b [row 3 1 (.slice none 0 0) _ _, row 3 1 (.slice (some ⟨b20, 0, none⟩) _ _) _ _, blk b7 _ _, blk b4 _ _, blk q _ _, row 3 1 v.cv _ _, row 4 1 v.lv _ _, row 75 _ _ _ _]
 refine x_loop (fun m e w => ∃ (i : Nat) (tv : Value), i ≤ l.length ∧ m = l.length - i ∧ e = [(0, .pointer (some ⟨q, 0, none⟩)), (1, .slice ra l.length rc), (4, .pointer (some ⟨b4, 0, none⟩)), (6, .slice (some ⟨b20, 0, none⟩) (v.c.length + 1) (v.c.length + 1)), (7, .pointer (some ⟨b7, 0, none⟩)), (8, tv), (9, .int .i64 i)] ∧ ((∀ t ∈ (l.map (·.2)).take i, chkT rd t = 0) ∧ (0 ≤ sumI (((l.map (·.2)).take i).map Tr.items) ∧ sumI (((l.map (·.2)).take i).map Tr.items) ≤ 524288 * i) ∧ (0 ≤ sumI (((l.map (·.2)).take i).map fun t => lensP (flatR rd t)) ∧ sumI (((l.map (·.2)).take i).map fun t => lensP (flatR rd t)) ≤ 2013265920 * i)) ∧ Sat G (row 3 1 tv (rootsOf ((l.map (·.2)).take i)).length (ints (rootsOf ((l.map (·.2)).take i))) :: row 3 1 (.slice (some ⟨b20, 0, none⟩) (v.c.length + 1) (v.c.length + 1)) (v.c.length + 1) (ints (cntsR v.c.length (rootsOf ((l.map (·.2)).take i)))) :: blk b7 [.int .i64 l.length, .int .i64 0, .int .i64 0, .int .i64 0, .int .i64 0, .int .i64 (sumI (((l.map (·.2)).take i).map Tr.items)), .int .i64 (sumI (((l.map (·.2)).take i).map fun t => lensP (flatR rd t))), .slice none 0 0] 40 :: blk b4 [.int .i64 0, .int .i64 0, .int .i64 0, .int .i64 0, .int .i64 0, .int .i64 0, .int .i64 0, .slice none 0 0] 40 :: rvP q v (stO S :: L)) w)
  (m := l.length) (e₀ := [(0, .pointer (some ⟨q, 0, none⟩)), (1, .slice ra l.length rc), (4, .pointer (some ⟨b4, 0, none⟩)), (6, .slice (some ⟨b20, 0, none⟩) (v.c.length + 1) (v.c.length + 1)), (7, .pointer (some ⟨b7, 0, none⟩)), (8, .slice none 0 0), (9, .int .i64 (0 : Nat))]) sB
  ⟨0, _, Nat.zero_le _, rfl, rfl, ⟨(fun t ht => by simp at ht), ⟨by simp [sumI], by simp [sumI]⟩, ⟨by simp [sumI], by simp [sumI]⟩⟩, hw⟩ ?_
 rintro m e w ⟨i, tv, hi, rfl, rfl, ⟨hck, hit, hby⟩, hw⟩
 obtain ⟨ta, tc, rfl⟩ := row_form hw
 refine z5 ?_
 refine x_len rfl rfl trivial (by kernel_rfl) U_sl_api_Root rfl ?_
 refine z2 ?_
 refine x_if rfl (fun h1 => ?_) (fun h1 => ?_)
 ·
  have hi' : i < l.length := by omega
  obtain ⟨x, hx⟩ : ∃ x, l[i]? = some x := ⟨_, List.getElem?_eq_getElem hi'⟩
  have hxr : (l.map rootC)[i]? = some (rootC x) := by rw [List.getElem?_map, hx]; rfl
  have hxt : (l.map (·.2))[i]? = some x.2 := by rw [List.getElem?_map, hx]; rfl
  obtain ⟨rb, ro, rfl⟩ := ((kl.of sF).at hw).nn (by rw [List.length_map]; omega)
  refine z9 ?_
  refine x_idx rfl rfl trivial U_sl_api_Root sz_api_Root rfl rfl ⟨by omega, by omega⟩ ?_
  refine x_fldk rfl rfl trivial fo_api_Root_1 rfl ?_
  refine x_ld rfl rfl trivial rfl (Loads.many (cs := treeC x.2) many_api_Tree rfl (by have h := (((kl.of sF).at hw).at hxr).drop 1; rw [Int.toNat_natCast]; exact h)) ?_
  refine x_call rfl rfl trivial cal_ref14_Check rfl (ct_ref14_Check (t := x.2) hI (hw.b [blk q _ _, row 3 1 v.cv _ _, row 4 1 v.lv _ _, row 75 _ _ _ _, stO S])) rfl (fun w v36 hv => ?_)
  obtain ⟨rfl, hw⟩ := hv
  refine z2 ?_
  refine x_if rfl (fun h2 => ?_) (fun h2 => ?_)
  ·
   refine z2 ?_
   refine x_build (v := .agg #[.int .i64 0, .int .i64 0, .int .i64 0, .int .i64 0, .int .i64 0, .int .i64 0, .int .i64 0, .slice none 0 0]) rfl rfl trivial rfl (fun w => by kernel_rfl) ?_
   refine x_stN (cs := RpV.cells ⟨rpZ, .slice none 0 0⟩) (l' := RpV.cells ⟨rpZ, .slice none 0 0⟩) rfl trivial rfl rfl many_api_Report rfl (by intro u hu; simp [RpV.cells] at hu; rcases hu with rfl | rfl | rfl | rfl | rfl | rfl | rfl | rfl <;> rfl) hw pK (by simp [RpV.cells]) rfl rfl (fun w hw => ?_)
   refine z3 ?_
   refine end2 rfl rfl ⟨_, rfl, (Loads.blkA (l := RpV.cells ⟨rpZ, .slice none 0 0⟩) many_api_Report hw pK rfl)⟩ rfl ⟨rpZ, 18, rfl, .inl ⟨⟨x.2, List.mem_of_getElem? hxt, h2⟩, rfl, rfl⟩, rfl, ?_⟩
   exact (hw.b [blk b4 _ _, blk b7 _ _, row 3 1 (.slice ta _ tc) _ _, row 3 1 (.slice (some ⟨b20, 0, none⟩) _ _) _ _, blk q _ _, row 3 1 v.cv _ _, row 4 1 v.lv _ _, row 75 _ _ _ _]).tail.tail.tail.tail
  have hc0 : chkT rd x.2 = 0 := Decidable.not_not.1 h2
  obtain ⟨hsi, hsf, hso, hsr⟩ := stands_le hI hc0
  have hfl := flatR_lens (rd := rd) (t := x.2)
  refine z2 ?_
  refine x_draw [0, 1, 2, 3, 4, 5, 6, 7, 8, 9, 10] mixed (by kernel_rfl) ?_
  replace hw := hw.drawn (w.drawn + 1)
  refine z1 ?_
  refine lD (v := .int .i64 (sumI (((l.map (·.2)).take i).map Tr.items))) one_int hw ?_
  refine z2 ?_
  refine x_idx rfl rfl trivial U_sl_api_Root sz_api_Root rfl rfl ⟨by omega, by omega⟩ ?_
  refine x_fldk rfl rfl trivial fo_api_Root_1 rfl ?_
  refine x_fldk rfl rfl trivial fo_api_Tree_2 rfl ?_
  refine x_ld rfl rfl trivial rfl (Loads.one (v := .int .i64 x.2.items) one_int (((kl.of sF).at hw).cell (j := 3) hxr rfl)) ?_
  refine z2 ?_
  refine x_st1 (l' := [.int .i64 l.length, .int .i64 0, .int .i64 0, .int .i64 0, .int .i64 0, .int .i64 (sumI (((l.map (·.2)).take i).map Tr.items) + x.2.items), .int .i64 (sumI (((l.map (·.2)).take i).map fun t => lensP (flatR rd t))), .slice none 0 0]) rfl trivial rfl rfl one_int rfl hw pK rfl rfl (by kernel_rfl) (fun w hw => ?_)
  refine z6 ?_
  refine x_idx rfl rfl trivial U_sl_api_Root sz_api_Root rfl rfl ⟨by omega, by omega⟩ ?_
  refine x_fldk rfl rfl trivial fo_api_Root_1 rfl ?_
  refine x_ld rfl rfl trivial rfl (Loads.many (cs := treeC x.2) many_api_Tree rfl (by have h := (((kl.of sF).at hw).at hxr).drop 1; rw [Int.toNat_natCast]; exact h)) ?_
  refine x_call rfl rfl trivial cal_ref14_All rfl (ct_ref14_All (t := x.2) hI (hw.b [blk q _ _, row 3 1 v.cv _ _, row 4 1 v.lv _ _, row 75 _ _ _ _, stO S]) (fun h => (hso h).1) (fun h => (hso h).2)) rfl (fun w v55 hv => ?_)
  obtain ⟨ol, holm, hw⟩ := hv
  have holf : ol.map PrV.pr = flatR rd x.2 := holm
  have holl : (ol.length : Int) = x.2.items := by rw [← hsf, ← holf, List.length_map]
  obtain ⟨oa, oc, rfl⟩ := row_form hw
  have hvals : ∀ k, lensP ((flatR rd x.2).take k) ≤ 3840 * k ∧ 0 ≤ lensP ((flatR rd x.2).take k) := fun k => by
   have h1 := lensP_le (l := (flatR rd x.2).take k) (fun y hy => by
     have hy := List.mem_of_mem_take hy
     unfold flatR at hy
     split at hy
     ·cases hy
     ·exact flatT_vals y hy)
   have h2 := List.length_take_le k (flatR rd x.2)
   omega
  refine z8 ?_
  have hw := hw.b [row 66 2 _ _ _, both (ol.flatMap prParts), row 3 1 (.slice ta _ tc) _ _, row 3 1 (.slice (some ⟨b20, 0, none⟩) _ _) _ _, blk b7 _ _, blk b4 _ _, blk q _ _, row 3 1 v.cv _ _, row 4 1 v.lv _ _, row 75 _ _ _ _, stO S]
  refine x_loop (fun m e w => ∃ (k : Nat), k ≤ ol.length ∧ m = ol.length - k ∧ e = [(0, .pointer (some ⟨q, 0, none⟩)), (1, .slice (some ⟨rb, ro, none⟩) l.length rc), (4, .pointer (some ⟨b4, 0, none⟩)), (6, .slice (some ⟨b20, 0, none⟩) (v.c.length + 1) (v.c.length + 1)), (7, .pointer (some ⟨b7, 0, none⟩)), (8, .slice ta (rootsOf ((l.map (·.2)).take i)).length tc), (9, .int .i64 i), (10, .slice oa ol.length oc), (11, .int .i64 k)] ∧ Sat G (row 66 2 (.slice oa ol.length oc) ol.length (ol.map PrV.cells).flatten :: both (ol.flatMap prParts) :: row 3 1 (.slice ta (rootsOf ((l.map (·.2)).take i)).length tc) (rootsOf ((l.map (·.2)).take i)).length (ints (rootsOf ((l.map (·.2)).take i))) :: row 3 1 (.slice (some ⟨b20, 0, none⟩) (v.c.length + 1) (v.c.length + 1)) (v.c.length + 1) (ints (cntsR v.c.length (rootsOf ((l.map (·.2)).take i)))) :: blk b7 [.int .i64 l.length, .int .i64 0, .int .i64 0, .int .i64 0, .int .i64 0, .int .i64 (sumI (((l.map (·.2)).take i).map Tr.items) + x.2.items), .int .i64 (sumI (((l.map (·.2)).take i).map fun t => lensP (flatR rd t)) + lensP ((flatR rd x.2).take k)), .slice none 0 0] 40 :: blk b4 [.int .i64 0, .int .i64 0, .int .i64 0, .int .i64 0, .int .i64 0, .int .i64 0, .int .i64 0, .slice none 0 0] 40 :: rvP q v (stO S :: L)) w)
   (m := ol.length) (e₀ := [(0, .pointer (some ⟨q, 0, none⟩)), (1, .slice (some ⟨rb, ro, none⟩) l.length rc), (4, .pointer (some ⟨b4, 0, none⟩)), (6, .slice (some ⟨b20, 0, none⟩) (v.c.length + 1) (v.c.length + 1)), (7, .pointer (some ⟨b7, 0, none⟩)), (8, .slice ta (rootsOf ((l.map (·.2)).take i)).length tc), (9, .int .i64 i), (10, .slice oa ol.length oc), (11, .int .i64 (0 : Nat))]) sB
   ⟨0, Nat.zero_le _, rfl, rfl, by rw [List.take_zero, show lensP [] = 0 from rfl, Int.add_zero]; exact hw⟩ ?_
  rintro m e w ⟨k, hk, rfl, rfl, hw⟩
  refine z5 ?_
  refine x_len rfl rfl trivial (by kernel_rfl) U_sl_api_Pair rfl ?_
  refine z2 ?_
  refine x_if rfl (fun h3 => ?_) (fun h3 => ?_)
  ·
   have hk' : k < ol.length := by omega
   obtain ⟨y, hy⟩ : ∃ y, ol[k]? = some y := ⟨_, List.getElem?_eq_getElem hk'⟩
   have hyr : (ol.map PrV.cells)[k]? = some y.cells := by rw [List.getElem?_map, hy]; rfl
   obtain ⟨ya, yc, hyv⟩ := prs_form hw.tail (List.mem_of_getElem? hy)
   have hok : ∀ R, Knows (row 66 2 (.slice oa ol.length oc) ol.length (ol.map PrV.cells).flatten :: R) (SlT 2 (.slice oa ol.length oc) (ol.map PrV.cells)) := fun R => (SlT.row (by simp) (fun r hr => by obtain ⟨z, _, rfl⟩ := List.mem_map.1 hr; rfl)).head R
   obtain ⟨ob, oo, hoa⟩ := (((hok _).of sF).at hw).nn (by rw [List.length_map]; omega)
   subst hoa
   have hfy : (flatR rd x.2)[k]? = some y.pr := by rw [← holf, List.getElem?_map, hy]; rfl
   have hv1 := hvals k
   have hv2 := hvals (k + 1)
   have hst : lensP ((flatR rd x.2).take (k + 1)) = lensP ((flatR rd x.2).take k) + y.pr.2.length := by rw [take_step hfy, lensP_snoc]
   refine z3 ?_
   refine x_draw [0, 1, 2, 3, 4, 5, 6, 7, 8, 9, 10] mixed (by kernel_rfl) ?_
   replace hw := hw.drawn (w.drawn + 1)
   refine z1 ?_
   refine lD (v := .int .i64 (sumI (((l.map (·.2)).take i).map fun t => lensP (flatR rd t)) + lensP ((flatR rd x.2).take k))) one_int hw ?_
   refine z2 ?_
   refine x_idx rfl rfl trivial U_sl_api_Pair sz_api_Pair rfl rfl ⟨by omega, by omega⟩ ?_
   refine x_fldk rfl rfl trivial fo_api_Pair_1 rfl ?_
   refine x_ld rfl rfl trivial rfl (Loads.one (v := .slice ya y.pr.2.length yc) one_sl_uint8 (by rw [← hyv]; exact (((hok _).of sF).at hw).cell (j := 1) hyr rfl)) ?_
   refine z3 ?_
   refine x_st1 (l' := [.int .i64 l.length, .int .i64 0, .int .i64 0, .int .i64 0, .int .i64 0, .int .i64 (sumI (((l.map (·.2)).take i).map Tr.items) + x.2.items), .int .i64 (sumI (((l.map (·.2)).take i).map fun t => lensP (flatR rd t)) + lensP ((flatR rd x.2).take k) + y.pr.2.length), .slice none 0 0]) rfl trivial rfl rfl one_int rfl hw pK rfl rfl (by kernel_rfl) (fun w hw => ?_)
   refine z6 ?_
   exact ⟨ol.length - (k + 1), by omega, [(0, _), (1, _), (4, _), (6, _), (7, _), (8, _), (9, _), (10, _), (11, .int .i64 (k + 1 : Nat))], sB, k + 1, by omega, rfl, rfl, by
     rw [hst, ← Int.add_assoc]
     exact hw.b [row 66 2 _ _ _, both (ol.flatMap prParts), row 3 1 (.slice ta _ tc) _ _, row 3 1 (.slice (some ⟨b20, 0, none⟩) _ _) _ _, blk b7 _ _]⟩
  have hke : k = ol.length := by omega
  subst hke
  have htk : (flatR rd x.2).take ol.length = flatR rd x.2 := List.take_of_length_le (by rw [← holf, List.length_map]; omega)
  rw [htk] at hw
  have hhn : ((l.map (·.2)).take (i + 1)) = ((l.map (·.2)).take i) ++ [x.2] := take_step hxt
  have hsn1 : sumI (((l.map (·.2)).take (i + 1)).map Tr.items) = sumI (((l.map (·.2)).take i).map Tr.items) + x.2.items := by rw [hhn, List.map_append, List.map_cons, List.map_nil, sumI_snoc]
  have hsn2 : sumI (((l.map (·.2)).take (i + 1)).map fun t => lensP (flatR rd t)) = sumI (((l.map (·.2)).take i).map fun t => lensP (flatR rd t)) + lensP (flatR rd x.2) := by rw [hhn, List.map_append, List.map_cons, List.map_nil, sumI_snoc]
  have hck1 : ∀ t ∈ (l.map (·.2)).take (i + 1), chkT rd t = 0 := fun t ht => by
   rw [hhn] at ht
   rcases List.mem_append.1 ht with ht | ht
   ·exact hck t ht
   simp at ht; subst ht; exact hc0
  have hz := (hw.b [row 66 2 _ _ _, both (ol.flatMap prParts)]).tail.tail
  clear hw
  have hw := hz
  clear hz
  rw [← hsn1, ← hsn2] at hw
  have hrl := rootsOf_len ((l.map (·.2)).take i)
  have htl : ((l.map (·.2)).take i).length = i := by rw [List.length_take, List.length_map]; omega
  refine z5 ?_
  refine x_idx rfl rfl trivial U_sl_api_Root sz_api_Root rfl rfl ⟨by omega, by omega⟩ ?_
  refine x_fldk rfl rfl trivial fo_api_Root_1 rfl ?_
  refine x_fldk rfl rfl trivial fo_api_Tree_0 rfl ?_
  refine x_ld rfl rfl trivial rfl (Loads.one (v := .int .i64 x.2.root) one_int (((kl.of sF).at hw).cell (j := 1) hxr rfl)) ?_
  refine z2 ?_
  refine x_if rfl (fun h4 => ?_) (fun h4 => ?_)
  ·
   have hr1 := hsr.resolve_left (by omega)
   have hcg : (ints (cntsR v.c.length (rootsOf ((l.map (·.2)).take i))))[x.2.root.toNat]? = some (.int .i64 (((rootsOf ((l.map (·.2)).take i)).count x.2.root : Nat) : Int)) := by
    rw [ints, List.getElem?_map, cntsR_get (by omega), show ((x.2.root.toNat : Nat) : Int) = x.2.root by omega]; rfl
   have hcl : (rootsOf ((l.map (·.2)).take i)).count x.2.root ≤ (rootsOf ((l.map (·.2)).take i)).length := List.count_le_length
   have hink : ∀ R, Knows (row 3 1 (.slice (some ⟨b20, 0, none⟩) (v.c.length + 1) (v.c.length + 1)) (v.c.length + 1) (ints (cntsR v.c.length (rootsOf ((l.map (·.2)).take i)))) :: R) (SlV (.slice (some ⟨b20, 0, none⟩) (v.c.length + 1) (v.c.length + 1)) (ints (cntsR v.c.length (rootsOf ((l.map (·.2)).take i))))) := fun R => by
    have h := rowI (v := .slice (some ⟨b20, 0, none⟩) (v.c.length + 1) (v.c.length + 1)) (c := cntsR v.c.length (rootsOf ((l.map (·.2)).take i))) (R := R)
    rw [cntsR_len] at h
    exact h
   have hrn : rootsOf ((l.map (·.2)).take (i + 1)) = rootsOf ((l.map (·.2)).take i) ++ [x.2.root] := by rw [hhn, rootsOf_snoc, if_pos hr1.1]
   refine z5 ?_
   refine x_idx rfl rfl trivial U_sl_api_Root sz_api_Root rfl rfl ⟨by omega, by omega⟩ ?_
   refine x_fldk rfl rfl trivial fo_api_Root_1 rfl ?_
   refine x_fldk rfl rfl trivial fo_api_Tree_0 rfl ?_
   refine x_ld rfl rfl trivial rfl (Loads.one (v := .int .i64 x.2.root) one_int (((kl.of sF).at hw).cell (j := 1) hxr rfl)) ?_
   refine x_idx1 rfl rfl trivial U_sl_int sz_int rfl rfl ⟨by omega, by omega⟩ ?_
   refine x_ld rfl rfl trivial rfl (Loads.one one_int ((((hink _).of sF).at hw).at hcg)) ?_
   refine z1 ?_
   refine x_idx1 rfl rfl trivial U_sl_int sz_int rfl rfl ⟨by omega, by omega⟩ ?_
   refine x_st1R (xs' := ints (cntsR v.c.length (rootsOf ((l.map (·.2)).take i) ++ [x.2.root]))) (m := v.c.length + 1) (j := x.2.root.toNat) rfl trivial rfl rfl one_int rfl hw pK (by omega) (Nat.zero_add _) (by rw [ints_set, cntsR_set (by omega)]) rfl (fun w hw => ?_)
   refine z5 ?_
   refine x_idx rfl rfl trivial U_sl_api_Root sz_api_Root rfl rfl ⟨by omega, by omega⟩ ?_
   refine x_fldk rfl rfl trivial fo_api_Root_1 rfl ?_
   refine x_fldk rfl rfl trivial fo_api_Tree_0 rfl ?_
   refine x_ld rfl rfl trivial rfl (Loads.one (v := .int .i64 x.2.root) one_int (((kl.of sF).at hw).cell (j := 1) hxr rfl)) ?_
   refine x_bs1 (cs := [.int .i64 x.2.root]) rfl rfl trivial U_sl_int sz_int zs_int (by decide) rfl rfl rfl hw rfl (fun w b97 hw => ?_)
   refine x_app (m := (rootsOf ((l.map (·.2)).take i)).length) (k := 1) (news := [.int .i64 x.2.root]) rfl rfl trivial U_sl_int sz_int by_int zs_int rfl rfl hw pK (Rd.blk0 hw pK) rfl (by intro u hu; simp at hu; subst hu; rfl) (by simp only [maxLen]; omega) (by omega) rfl (fun w v98 hw => ?_)
   refine z7 ?_
   have hz := (hw.b [blk b97 _ _, row 3 1 v98 _ _, row 3 1 (.slice (some ⟨b20, 0, none⟩) _ _) _ _, blk b7 _ _, blk b4 _ _, blk q _ _, row 3 1 v.cv _ _, row 4 1 v.lv _ _, row 75 _ _ _ _]).tail
   refine ⟨l.length - (i + 1), by omega, [(0, _), (1, _), (4, _), (6, _), (7, _), (8, v98), (9, .int .i64 (i + 1 : Nat))], sB, i + 1, v98, by omega, rfl, rfl, ⟨hck1, by rw [hsn1]; omega, by rw [hsn2]; omega⟩, ?_⟩
   rw [hrn, List.length_append, ints_snoc]
   exact hz
  refine z6 ?_
  have hrn : rootsOf ((l.map (·.2)).take (i + 1)) = rootsOf ((l.map (·.2)).take i) := by rw [hhn, rootsOf_snoc, if_neg (by omega), List.append_nil]
  refine ⟨l.length - (i + 1), by omega, [(0, _), (1, _), (4, _), (6, _), (7, _), (8, _), (9, .int .i64 (i + 1 : Nat))], sB, i + 1, _, by omega, rfl, rfl, ⟨hck1, by rw [hsn1]; omega, by rw [hsn2]; omega⟩, ?_⟩
  rw [hrn]
  exact hw
 have hie : i = l.length := by omega
 subst hie
 obtain ⟨ts, hts⟩ : ∃ ts, ts = l.map (·.2) := ⟨_, rfl⟩
 have htk : (l.map (·.2)).take l.length = ts := by rw [hts]; exact List.take_of_length_le (by simp)
 have htl : ts.length = l.length := by rw [hts]; simp
 rw [htk] at hw hck hit hby
 rw [htk]
 rw [← hts]
 have hrl := rootsOf_len ts
 obtain ⟨I0, hI0⟩ : ∃ x, x = sumI (ts.map Tr.items) := ⟨_, rfl⟩
 obtain ⟨Y0, hY0⟩ : ∃ x, x = sumI (ts.map fun t => lensP (flatR rd t)) := ⟨_, rfl⟩
 rw [← hI0, ← hY0] at hw
 have hgt : ∀ n, (∃ t ∈ ts, ∃ M, Stands rd t M ∧ n ∈ M) → rd n ≠ none := fun n ⟨t, _, M, hM, hn⟩ => hM.th n hn
 have hgr : ∀ n ∈ rootsOf ts, ∃ t ∈ ts, ∃ M, Stands rd t M ∧ n ∈ M := fun n hn => by
  unfold rootsOf at hn
  rw [List.mem_filter] at hn
  obtain ⟨t, ht, rfl⟩ := List.mem_map.1 hn.1
  have h0 : 0 < t.root := by simpa using hn.2
  rcases chk_stands hI.rok (hck t ht) with h1 | ⟨M, h1⟩
  ·unfold treeNone at h1; omega
  exact ⟨t, ht, M, h1, h1.root⟩
 refine z4 ?_
 refine x_call rfl rfl trivial cal_ref11_Vault_Len rfl (ct_ref11_Vault_Len (q := q) (v := v) (hw.b [blk q _ _, row 3 1 v.cv _ _, row 4 1 v.lv _ _, row 75 _ _ _ _])) rfl (fun w v100 hv => ?_)
 obtain ⟨rfl, hw⟩ := hv
 refine z1 ?_
 refine x_mks rfl rfl trivial U_sl_bool sz_bool by_bool z_bool rfl rfl ⟨by omega, by omega⟩ (by omega) (by omega) hw rfl (fun w b102 hw => ?_)
 have hnm : ((v.c.length : Int) + 1).toNat = v.c.length + 1 := by omega
 rw [hnm] at hw
 rw [hnm]
 have hbl : rep (v.c.length + 1) (Value.bool false) = bls (List.replicate (v.c.length + 1) false) ++ [] := by simp [bls, rep]
 rw [hbl] at hw
 have hw := row_mk (z := 1) (m := v.c.length + 1) (cap := v.c.length + 1) hw (by simp [bls]) (Nat.le_refl _) (by simp only [maxLen]; omega) (by simp [bls])
 have hml0 : MetL v (List.replicate (v.c.length + 1) false) [] := ⟨by simp, fun n hn => by
   have := cntP_in hn
   rw [List.getD_eq_getElem?_getD, List.getElem?_replicate, if_pos (by omega)]; rfl⟩
 refine z4 ?_
 have hw := hw.b [row 3 1 (.slice ta _ tc) _ _, row 3 1 (.slice (some ⟨b20, 0, none⟩) _ _) _ _, row 4 1 (.slice (some ⟨b102, 0, none⟩) _ _) _ _, blk b7 _ _, blk b4 _ _, blk q _ _, row 3 1 v.cv _ _, row 4 1 v.lv _ _, row 75 _ _ _ _]
 refine x_loop (fun m e w => ∃ (W st A : List Int) (ml : List Bool) (tv : Value), m = 9 * (65536 - W.length) + st.length ∧ e = [(0, .pointer (some ⟨q, 0, none⟩)), (4, .pointer (some ⟨b4, 0, none⟩)), (6, .slice (some ⟨b20, 0, none⟩) (v.c.length + 1) (v.c.length + 1)), (7, .pointer (some ⟨b7, 0, none⟩)), (8, tv), (12, .slice (some ⟨b102, 0, none⟩) (v.c.length + 1) (v.c.length + 1))] ∧ (Leads rd (rootsOf ts) W st A ∧ MetL v ml W ∧ (∀ n ∈ st, ∃ t ∈ ts, ∃ M, Stands rd t M ∧ n ∈ M) ∧ (∀ n ∈ W, rd n ≠ none) ∧ A.length ≤ 1000 + 8 * W.length ∧ st.length ≤ A.length) ∧ Sat G (row 3 1 tv st.length (ints st) :: row 3 1 (.slice (some ⟨b20, 0, none⟩) (v.c.length + 1) (v.c.length + 1)) (v.c.length + 1) (ints (cntsR v.c.length A)) :: row 4 1 (.slice (some ⟨b102, 0, none⟩) (v.c.length + 1) (v.c.length + 1)) (v.c.length + 1) (bls ml) :: blk b7 [.int .i64 l.length, .int .i64 W.length, .int .i64 (cntK rd 1 W), .int .i64 (cntK rd 2 W), .int .i64 (cntB rd W), .int .i64 I0, .int .i64 Y0, .slice none 0 0] 40 :: blk b4 [.int .i64 0, .int .i64 0, .int .i64 0, .int .i64 0, .int .i64 0, .int .i64 0, .int .i64 0, .slice none 0 0] 40 :: rvP q v (stO S :: L)) w)
  (m := 9 * 65536 + (rootsOf ts).length) (e₀ := [(0, .pointer (some ⟨q, 0, none⟩)), (4, .pointer (some ⟨b4, 0, none⟩)), (6, .slice (some ⟨b20, 0, none⟩) (v.c.length + 1) (v.c.length + 1)), (7, .pointer (some ⟨b7, 0, none⟩)), (8, .slice ta (rootsOf ts).length tc), (12, .slice (some ⟨b102, 0, none⟩) (v.c.length + 1) (v.c.length + 1))]) sB
  ⟨[], rootsOf ts, rootsOf ts, List.replicate (v.c.length + 1) false, _, rfl, rfl, ⟨Leads.start rd _, hml0, hgr, (fun n hn => by cases hn), by omega, Nat.le_refl _⟩, hw⟩ ?_
 rintro m e w ⟨W, st, A, ml, tv, rfl, rfl, ⟨hld, hml, hgs, hwt, hal, hsa⟩, hw⟩
 obtain ⟨ta, tc, rfl⟩ := row_form hw
 have hWl := hI.met_le hld.nd hwt
 refine z7 ?_
 refine x_if rfl (fun h5 => ?_) (fun h5 => ?_)
 ·
  obtain ⟨st0, n, rfl⟩ : ∃ st0 n, st = st0 ++ [n] := ⟨st.dropLast, st.getLast (by intro h; subst h; simp at h5), (List.dropLast_concat_getLast _).symm⟩
  have hgn := hgs n (by simp)
  have hgs0 : ∀ m ∈ st0, ∃ t ∈ ts, ∃ M, Stands rd t M ∧ m ∈ M := fun m hm => hgs m (List.mem_append_left _ hm)
  have hrn := hgt n hgn
  have hc := hI.th hrn
  have hin := cntP_in hc
  obtain ⟨pg, hpg, hpS, hpm, hrd, hpc⟩ := hI.yes n hc
  have hpr : (v.p.map PgV.cells)[(n - 1).toNat]? = some pg.cells := by rw [List.getElem?_map, hpg]; rfl
  have hkp : kidsOf rd n = kidsP pg.pg := by unfold kidsOf; rw [hrd]
  have hkl := kidsP_le hpc
  have hkg : ∀ k ∈ kidsP pg.pg, ∃ t ∈ ts, ∃ M, Stands rd t M ∧ k ∈ M := fun k hk => by
   obtain ⟨t, ht, M, hM, hn⟩ := hgn
   exact ⟨t, ht, M, hM, hM.kids n hn k (by rw [hkp]; exact hk)⟩
  have hlen : (st0 ++ [n]).length = st0.length + 1 := by simp
  rw [hlen] at hw hsa
  rw [hlen]
  have hti : (ints (st0 ++ [n]))[st0.length]? = some (.int .i64 n) := by simp [ints]
  obtain ⟨-, tb, -, hta, htc, -⟩ := row_some hw (by omega)
  subst hta
  have htk : ∀ R, Knows (row 3 1 (.slice (some ⟨tb, 0, none⟩) (st0.length + 1) tc) (st0.length + 1) (ints (st0 ++ [n])) :: R) (SlV (.slice (some ⟨tb, 0, none⟩) (st0.length + 1) tc) (ints (st0 ++ [n]))) := fun R => by
   have h := rowI (v := .slice (some ⟨tb, 0, none⟩) (st0.length + 1) tc) (c := st0 ++ [n]) (R := R)
   rw [hlen] at h
   exact h
  refine z8 ?_
  refine x_idx1 rfl rfl trivial U_sl_int sz_int rfl rfl ⟨by omega, by omega⟩ ?_
  refine x_ld rfl rfl trivial rfl (Loads.one (v := .int .i64 n) one_int (by
 have e : (((st0.length + 1 : Nat) : Int) - 1).toNat = st0.length := by omega
 exact (((htk _).of sF).at hw).at (by rw [e]; exact hti))) ?_
  refine z8 ?_
  refine x_cutH rfl rfl trivial U_sl_int szs_int rfl (by simp) rfl ⟨by omega, by omega⟩ ?_
  have e32 : (((st0.length + 1 : Nat) : Int) - 1).toNat = st0.length := by omega
  rw [e32]
  have hw := row_cut hw (j := st0.length) (by omega)
  have hta2 : (ints (st0 ++ [n])).take st0.length = ints st0 := by simp [ints]
  rw [hta2] at hw
  have hmk : ∀ R, Knows (row 4 1 (.slice (some ⟨b102, 0, none⟩) (v.c.length + 1) (v.c.length + 1)) (v.c.length + 1) (bls ml) :: R) (SlV (.slice (some ⟨b102, 0, none⟩) (v.c.length + 1) (v.c.length + 1)) (bls ml)) := fun R => by
   have h := rowL (v := .slice (some ⟨b102, 0, none⟩) (v.c.length + 1) (v.c.length + 1)) (c := ml) (R := R)
   rw [hml.1] at h
   exact h
  have hmn := hml.2 n hc
  refine z7 ?_
  refine x_idx1 rfl rfl trivial U_sl_bool sz_bool rfl rfl ⟨by omega, by omega⟩ ?_
  refine x_ld rfl rfl trivial rfl (Loads.one one_bool ((((hmk _).of sF).at hw).at (bls_at (by rw [hml.1]; omega)))) ?_
  refine xl_nil ?_
  refine x_if rfl (fun h6 => ?_) (fun h6 => ?_)
  ·
   have hnW : n ∈ W := by rw [hmn] at h6; simpa using h6
   refine z1 ?_
   exact ⟨9 * (65536 - W.length) + st0.length, by omega, [(0, _), (4, _), (6, _), (7, _), (8, _), (12, _)], sB, W, st0, A, ml, _, rfl, rfl, ⟨hld.skip hnW, hml, hgs0, hwt, hal, by omega⟩, hw⟩
  have hnW : n ∉ W := by rw [hmn] at h6; simpa using h6
  have hvis := hld.visit hnW
  have hwt1 : ∀ m ∈ W ++ [n], rd m ≠ none := fun m hm => by
   rcases List.mem_append.1 hm with hm | hm
   ·exact hwt m hm
   simp at hm; subst hm; exact hrn
  have hWl1 := hI.met_le hvis.nd hwt1
  have hWn : (W ++ [n]).length = W.length + 1 := by simp
  have hml1 : MetL v (ml.set n.toNat true) (W ++ [n]) := by
   have h := hml.set hc
   exact ⟨h.1, fun j hj => by rw [h.2 j hj]; simp [or_comm]⟩
  have hkn : kindOf rd n = pg.kind := by unfold kindOf; rw [hrd]; rfl
  have hk1 := cntK_le rd 1 W
  have hk2 := cntK_le rd 2 W
  have hk3 := cntB_le rd W
  rw [hkp] at hvis
  refine z5 ?_
  refine x_idx1 rfl rfl trivial U_sl_bool sz_bool rfl rfl ⟨by omega, by omega⟩ ?_
  refine x_st1R (xs' := bls (ml.set n.toNat true)) (m := v.c.length + 1) (j := n.toNat) rfl trivial rfl rfl one_bool rfl hw pK (by omega) (Nat.zero_add _) bls_set rfl (fun w hw => ?_)
  refine z4 ?_
  refine lD (v := .int .i64 W.length) one_int hw ?_
  refine z2 ?_
  refine x_st1 (l' := [.int .i64 l.length, .int .i64 ((W.length : Int) + 1), .int .i64 (cntK rd 1 W), .int .i64 (cntK rd 2 W), .int .i64 (cntB rd W), .int .i64 I0, .int .i64 Y0, .slice none 0 0]) rfl trivial rfl rfl one_int rfl hw pK rfl rfl rfl (fun w hw => ?_)
  refine xl_nil ?_
  refine x_join (fun e w => e = [(0, .pointer (some ⟨q, 0, none⟩)), (4, .pointer (some ⟨b4, 0, none⟩)), (6, .slice (some ⟨b20, 0, none⟩) (v.c.length + 1) (v.c.length + 1)), (7, .pointer (some ⟨b7, 0, none⟩)), (8, .slice (some ⟨tb, 0, none⟩) st0.length tc), (12, .slice (some ⟨b102, 0, none⟩) (v.c.length + 1) (v.c.length + 1)), (13, .int .i64 n)] ∧ Sat G (row 3 1 (.slice (some ⟨tb, 0, none⟩) st0.length tc) st0.length (ints st0) :: row 3 1 (.slice (some ⟨b20, 0, none⟩) (v.c.length + 1) (v.c.length + 1)) (v.c.length + 1) (ints (cntsR v.c.length A)) :: row 4 1 (.slice (some ⟨b102, 0, none⟩) (v.c.length + 1) (v.c.length + 1)) (v.c.length + 1) (bls (ml.set n.toNat true)) :: blk b7 [.int .i64 l.length, .int .i64 ((W ++ [n]).length : Nat), .int .i64 (cntK rd 1 (W ++ [n])), .int .i64 (cntK rd 2 (W ++ [n])), .int .i64 (cntB rd (W ++ [n])), .int .i64 I0, .int .i64 Y0, .slice none 0 0] 40 :: blk b4 [.int .i64 0, .int .i64 0, .int .i64 0, .int .i64 0, .int .i64 0, .int .i64 0, .int .i64 0, .slice none 0 0] 40 :: rvP q v (stO S :: L)) w) ?_ ?_
  ·
   refine z5 ?_
   refine x_ld rfl rfl trivial rfl (Loads.blk1 (v := .slice (some ⟨pb, 0, none⟩) v.p.length pc) one_sl_api_Page hw pK (by rw [← hpv]; rfl)) ?_
   refine z2 ?_
   refine x_idx rfl rfl trivial U_sl_api_Page sz_api_Page rfl rfl ⟨by omega, by omega⟩ ?_
   refine x_fldk rfl rfl trivial fo_api_Page_0 rfl ?_
   refine x_ld rfl rfl trivial rfl (Loads.one (v := .int .i64 pg.kind) one_int (by have h := ((((hsl _).of sF).at hw).at hpr) 0 _ rfl; rwa [add_lit] at h)) ?_
   refine z7 ?_
   refine x_if rfl (fun h7 => ?_) (fun h7 => ?_)
   ·
    refine z2 ?_
    refine lD (v := .int .i64 (cntK rd 1 W)) one_int hw ?_
    refine z2 ?_
    refine x_st1 (l' := [.int .i64 l.length, .int .i64 ((W.length : Int) + 1), .int .i64 (cntK rd 1 W + 1), .int .i64 (cntK rd 2 W), .int .i64 (cntB rd W), .int .i64 I0, .int .i64 Y0, .slice none 0 0]) rfl trivial rfl rfl one_int rfl hw pK rfl rfl rfl (fun w hw => ?_)
    refine xl_nil ?_
    refine ⟨[(0, _), (4, _), (6, _), (7, _), (8, _), (12, _), (13, _)], sB, rfl, ?_⟩
    rw [cntK_snoc, cntK_snoc, cntB_snoc, hkn, if_pos h7, if_neg (by omega), if_neg (by omega), hWn, Int.add_zero, Int.add_zero]
    exact hw.b [row 3 1 (.slice (some ⟨tb, 0, none⟩) _ tc) _ _, row 3 1 (.slice (some ⟨b20, 0, none⟩) _ _) _ _, row 4 1 (.slice (some ⟨b102, 0, none⟩) _ _) _ _]
   refine z5 ?_
   refine x_if rfl (fun h8 => ?_) (fun h8 => ?_)
   ·
    refine z2 ?_
    refine lD (v := .int .i64 (cntK rd 2 W)) one_int hw ?_
    refine z2 ?_
    refine x_st1 (l' := [.int .i64 l.length, .int .i64 ((W.length : Int) + 1), .int .i64 (cntK rd 1 W), .int .i64 (cntK rd 2 W + 1), .int .i64 (cntB rd W), .int .i64 I0, .int .i64 Y0, .slice none 0 0]) rfl trivial rfl rfl one_int rfl hw pK rfl rfl rfl (fun w hw => ?_)
    refine xl_nil ?_
    refine ⟨[(0, _), (4, _), (6, _), (7, _), (8, _), (12, _), (13, _)], sB, rfl, ?_⟩
    rw [cntK_snoc, cntK_snoc, cntB_snoc, hkn, if_neg h7, if_pos h8, if_neg (by omega), hWn, Int.add_zero, Int.add_zero]
    exact hw.b [row 3 1 (.slice (some ⟨tb, 0, none⟩) _ tc) _ _, row 3 1 (.slice (some ⟨b20, 0, none⟩) _ _) _ _, row 4 1 (.slice (some ⟨b102, 0, none⟩) _ _) _ _]
   refine z2 ?_
   refine lD (v := .int .i64 (cntB rd W)) one_int hw ?_
   refine z2 ?_
   refine x_st1 (l' := [.int .i64 l.length, .int .i64 ((W.length : Int) + 1), .int .i64 (cntK rd 1 W), .int .i64 (cntK rd 2 W), .int .i64 (cntB rd W + 1), .int .i64 I0, .int .i64 Y0, .slice none 0 0]) rfl trivial rfl rfl one_int rfl hw pK rfl rfl rfl (fun w hw => ?_)
   refine xl_nil ?_
   refine ⟨[(0, _), (4, _), (6, _), (7, _), (8, _), (12, _), (13, _)], sB, rfl, ?_⟩
   rw [cntK_snoc, cntK_snoc, cntB_snoc, hkn, if_neg h7, if_neg h8, if_pos ⟨h7, h8⟩, hWn, Int.add_zero, Int.add_zero]
   exact hw.b [row 3 1 (.slice (some ⟨tb, 0, none⟩) _ tc) _ _, row 3 1 (.slice (some ⟨b20, 0, none⟩) _ _) _ _, row 4 1 (.slice (some ⟨b102, 0, none⟩) _ _) _ _]
  clear hw
  rintro e w ⟨rfl, hw⟩
  refine z5 ?_
  refine x_ld rfl rfl trivial rfl (Loads.blk1 (v := .slice (some ⟨pb, 0, none⟩) v.p.length pc) one_sl_api_Page hw pK (by rw [← hpv]; rfl)) ?_
  refine z2 ?_
  refine x_idx rfl rfl trivial U_sl_api_Page sz_api_Page rfl rfl ⟨by omega, by omega⟩ ?_
  refine x_ld rfl rfl trivial rfl (Loads.many (cs := pg.cells) many_api_Page rfl (((hsl _).of sF).at hw |>.at hpr)) ?_
  refine x_call rfl rfl trivial cal_ref07_Kids rfl (ct_ref07_Kids (p := pg) hw (stO_ok hpS hpm pK)) rfl (fun w v161 hv => ?_)
  have hw : Sat G (row 3 1 v161 (kidsP pg.pg).length (ints (kidsP pg.pg)) :: _) _ := hv
  obtain ⟨ka, kc, rfl⟩ := row_form hw
  refine z7 ?_
  have hw := hw.b [row 3 1 (.slice (some ⟨tb, 0, none⟩) _ tc) _ _, row 3 1 (.slice (some ⟨b20, 0, none⟩) _ _) _ _, row 3 1 (.slice ka _ kc) _ _]
  refine x_loop (fun m e w => ∃ (k : Nat) (tv : Value), k ≤ (kidsP pg.pg).length ∧ m = (kidsP pg.pg).length - k ∧ e = [(0, .pointer (some ⟨q, 0, none⟩)), (4, .pointer (some ⟨b4, 0, none⟩)), (6, .slice (some ⟨b20, 0, none⟩) (v.c.length + 1) (v.c.length + 1)), (7, .pointer (some ⟨b7, 0, none⟩)), (8, tv), (12, .slice (some ⟨b102, 0, none⟩) (v.c.length + 1) (v.c.length + 1)), (14, .slice ka (kidsP pg.pg).length kc), (15, .int .i64 k)] ∧ Sat G (row 3 1 tv (st0.length + k) (ints (st0 ++ (kidsP pg.pg).take k)) :: row 3 1 (.slice (some ⟨b20, 0, none⟩) (v.c.length + 1) (v.c.length + 1)) (v.c.length + 1) (ints (cntsR v.c.length (A ++ (kidsP pg.pg).take k))) :: row 3 1 (.slice ka (kidsP pg.pg).length kc) (kidsP pg.pg).length (ints (kidsP pg.pg)) :: row 4 1 (.slice (some ⟨b102, 0, none⟩) (v.c.length + 1) (v.c.length + 1)) (v.c.length + 1) (bls (ml.set n.toNat true)) :: blk b7 [.int .i64 l.length, .int .i64 ((W ++ [n]).length : Nat), .int .i64 (cntK rd 1 (W ++ [n])), .int .i64 (cntK rd 2 (W ++ [n])), .int .i64 (cntB rd (W ++ [n])), .int .i64 I0, .int .i64 Y0, .slice none 0 0] 40 :: blk b4 [.int .i64 0, .int .i64 0, .int .i64 0, .int .i64 0, .int .i64 0, .int .i64 0, .int .i64 0, .slice none 0 0] 40 :: rvP q v (stO S :: L)) w)
   (m := (kidsP pg.pg).length) (e₀ := [(0, .pointer (some ⟨q, 0, none⟩)), (4, .pointer (some ⟨b4, 0, none⟩)), (6, .slice (some ⟨b20, 0, none⟩) (v.c.length + 1) (v.c.length + 1)), (7, .pointer (some ⟨b7, 0, none⟩)), (8, .slice (some ⟨tb, 0, none⟩) st0.length tc), (12, .slice (some ⟨b102, 0, none⟩) (v.c.length + 1) (v.c.length + 1)), (14, .slice ka (kidsP pg.pg).length kc), (15, .int .i64 (0 : Nat))]) sB
   ⟨0, _, Nat.zero_le _, rfl, rfl, by rw [List.take_zero, List.append_nil, List.append_nil]; exact hw⟩ ?_
  rintro m e w ⟨k, tv, hk, rfl, rfl, hw⟩
  refine z8 ?_
  refine x_if rfl (fun h9 => ?_) (fun h9 => ?_)
  ·
   have hk' : k < (kidsP pg.pg).length := by omega
   obtain ⟨a, ha⟩ : ∃ a, (kidsP pg.pg)[k]? = some a := ⟨_, List.getElem?_eq_getElem hk'⟩
   have hai := cntP_in (hI.th (hgt a (hkg a (List.mem_of_getElem? ha))))
   have hkk : ∀ R, Knows (row 3 1 (.slice ka (kidsP pg.pg).length kc) (kidsP pg.pg).length (ints (kidsP pg.pg)) :: R) (SlV (.slice ka (kidsP pg.pg).length kc) (ints (kidsP pg.pg))) := fun R => rowI
   obtain ⟨kb, ko, hka⟩ := (((hkk _).of sF).at hw).nn (by rw [ints_length]; omega)
   subst hka
   have hcg : (ints (cntsR v.c.length (A ++ (kidsP pg.pg).take k)))[a.toNat]? = some (.int .i64 (((A ++ (kidsP pg.pg).take k).count a : Nat) : Int)) := by
    rw [ints, List.getElem?_map, cntsR_get (by omega), show ((a.toNat : Nat) : Int) = a by omega]; rfl
   have hcl : (A ++ (kidsP pg.pg).take k).count a ≤ (A ++ (kidsP pg.pg).take k).length := List.count_le_length
   have hcl2 : (A ++ (kidsP pg.pg).take k).length ≤ A.length + k := by rw [List.length_append]; have := List.length_take_le k (kidsP pg.pg); omega
   have hink : ∀ R, Knows (row 3 1 (.slice (some ⟨b20, 0, none⟩) (v.c.length + 1) (v.c.length + 1)) (v.c.length + 1) (ints (cntsR v.c.length (A ++ (kidsP pg.pg).take k))) :: R) (SlV (.slice (some ⟨b20, 0, none⟩) (v.c.length + 1) (v.c.length + 1)) (ints (cntsR v.c.length (A ++ (kidsP pg.pg).take k)))) := fun R => by
    have h := rowI (v := .slice (some ⟨b20, 0, none⟩) (v.c.length + 1) (v.c.length + 1)) (c := cntsR v.c.length (A ++ (kidsP pg.pg).take k)) (R := R)
    rw [cntsR_len] at h
    exact h
   refine z8 ?_
   refine x_idx1 rfl rfl trivial U_sl_int sz_int rfl rfl ⟨by omega, by omega⟩ ?_
   refine x_ld rfl rfl trivial rfl (Loads.one (v := .int .i64 a) one_int ((((hkk _).of sF).at hw).at (by rw [Int.toNat_natCast]; exact ints_of ha))) ?_
   refine x_idx1 rfl rfl trivial U_sl_int sz_int rfl rfl ⟨by omega, by omega⟩ ?_
   refine x_ld rfl rfl trivial rfl (Loads.one one_int ((((hink _).of sF).at hw).at hcg)) ?_
   refine z1 ?_
   refine x_idx1 rfl rfl trivial U_sl_int sz_int rfl rfl ⟨by omega, by omega⟩ ?_
   refine x_st1R (xs' := ints (cntsR v.c.length (A ++ (kidsP pg.pg).take (k + 1)))) (m := v.c.length + 1) (j := a.toNat) rfl trivial rfl rfl one_int rfl hw pK (by omega) (Nat.zero_add _) (by rw [ints_set, cntsR_set (by omega), take_step ha, List.append_assoc]) rfl (fun w hw => ?_)
   refine z5 ?_
   refine x_idx1 rfl rfl trivial U_sl_int sz_int rfl rfl ⟨by omega, by omega⟩ ?_
   refine x_ld rfl rfl trivial rfl (Loads.one (v := .int .i64 a) one_int ((((hkk _).of sF).at hw).at (by rw [Int.toNat_natCast]; exact ints_of ha))) ?_
   refine x_bs1 (cs := [.int .i64 a]) rfl rfl trivial U_sl_int sz_int zs_int (by decide) rfl rfl rfl hw rfl (fun w b182 hw => ?_)
   refine x_app (m := st0.length + k) (k := 1) (news := [.int .i64 a]) rfl rfl trivial U_sl_int sz_int by_int zs_int rfl rfl hw pK (Rd.blk0 hw pK) rfl (by intro u hu; simp at hu; subst hu; rfl) (by simp only [maxLen]; omega) (by omega) rfl (fun w v183 hw => ?_)
   refine z7 ?_
   have hz := (hw.b [blk b182 _ _, row 3 1 v183 _ _, row 3 1 (.slice (some ⟨b20, 0, none⟩) _ _) _ _]).tail
   refine ⟨(kidsP pg.pg).length - (k + 1), by omega, [(0, _), (4, _), (6, _), (7, _), (8, v183), (12, _), (14, _), (15, .int .i64 (k + 1 : Nat))], sB, k + 1, v183, by omega, rfl, rfl, ?_⟩
   have e1 : ints (st0 ++ (kidsP pg.pg).take (k + 1)) = ints (st0 ++ (kidsP pg.pg).take k) ++ [.int .i64 a] := by rw [take_step ha, ← List.append_assoc, ints_snoc]
   rw [e1]; exact hz
  refine z1 ?_
  have hke : k = (kidsP pg.pg).length := by omega
  subst hke
  rw [List.take_length] at hw
  have hz := (hw.b [row 3 1 (.slice ka _ kc) _ _]).tail
  refine ⟨9 * (65536 - (W ++ [n]).length) + (st0 ++ kidsP pg.pg).length, by rw [hWn, List.length_append]; omega, [(0, _), (4, _), (6, _), (7, _), (8, tv), (12, _)], sB, W ++ [n], st0 ++ kidsP pg.pg, A ++ kidsP pg.pg, ml.set n.toNat true, tv, rfl, rfl, ⟨hvis, hml1, fun m hm => ?_, hwt1, by rw [hWn, List.length_append]; omega, by rw [List.length_append, List.length_append]; omega⟩, ?_⟩
  ·rcases List.mem_append.1 hm with hm | hm
   ·exact hgs0 m hm
   exact hkg m hm
  rw [List.length_append]; exact hz
 have hse : st = [] := List.eq_nil_of_length_eq_zero (by omega)
 subst hse
 have hdone := hld.done
 obtain ⟨cb, cc, hcv⟩ : ∃ cb cc, v.cv = .slice (some ⟨cb, 0, none⟩) v.c.length cc := by
  have h1 := hI.one
  have hz := hw.pick (A := row 3 1 v.cv v.c.length (ints v.c)) pK
  obtain ⟨ca, cc, h3⟩ := row_form hz
  rw [h3] at hz
  obtain ⟨-, cb, -, h4, -⟩ := row_some hz (by omega)
  exact ⟨cb, cc, by rw [h3, h4]⟩
 have hck2 : ∀ R, Knows (row 3 1 v.cv v.c.length (ints v.c) :: R) (SlV (.slice (some ⟨cb, 0, none⟩) v.c.length cc) (ints v.c)) := fun R => by
  rw [hcv]; exact rowI
 have hink : ∀ R, Knows (row 3 1 (.slice (some ⟨b20, 0, none⟩) (v.c.length + 1) (v.c.length + 1)) (v.c.length + 1) (ints (cntsR v.c.length A)) :: R) (SlV (.slice (some ⟨b20, 0, none⟩) (v.c.length + 1) (v.c.length + 1)) (ints (cntsR v.c.length A))) := fun R => by
  have h := rowI (v := .slice (some ⟨b20, 0, none⟩) (v.c.length + 1) (v.c.length + 1)) (c := cntsR v.c.length A) (R := R)
  rw [cntsR_len] at h
  exact h
 refine z7 ?_
 refine x_loop (fun m e w => ∃ (k : Nat), k ≤ v.c.length ∧ m = v.c.length - k ∧ e = [(0, .pointer (some ⟨q, 0, none⟩)), (4, .pointer (some ⟨b4, 0, none⟩)), (6, .slice (some ⟨b20, 0, none⟩) (v.c.length + 1) (v.c.length + 1)), (7, .pointer (some ⟨b7, 0, none⟩)), (16, .int .i64 ((k : Int) + 1))] ∧ (∀ (i : Nat) (x : Int), i < k → v.c[i]? = some x → ((A.count ((i : Int) + 1) : Nat) : Int) = x) ∧ Sat G (row 3 1 (.slice ta ([] : List Int).length tc) ([] : List Int).length (ints []) :: row 3 1 (.slice (some ⟨b20, 0, none⟩) (v.c.length + 1) (v.c.length + 1)) (v.c.length + 1) (ints (cntsR v.c.length A)) :: row 4 1 (.slice (some ⟨b102, 0, none⟩) (v.c.length + 1) (v.c.length + 1)) (v.c.length + 1) (bls ml) :: blk b7 [.int .i64 l.length, .int .i64 W.length, .int .i64 (cntK rd 1 W), .int .i64 (cntK rd 2 W), .int .i64 (cntB rd W), .int .i64 I0, .int .i64 Y0, .slice none 0 0] 40 :: blk b4 [.int .i64 0, .int .i64 0, .int .i64 0, .int .i64 0, .int .i64 0, .int .i64 0, .int .i64 0, .slice none 0 0] 40 :: rvP q v (stO S :: L)) w)
  (m := v.c.length) (e₀ := [(0, .pointer (some ⟨q, 0, none⟩)), (4, .pointer (some ⟨b4, 0, none⟩)), (6, .slice (some ⟨b20, 0, none⟩) (v.c.length + 1) (v.c.length + 1)), (7, .pointer (some ⟨b7, 0, none⟩)), (16, .int .i64 1)]) sB
  ⟨0, Nat.zero_le _, rfl, rfl, (fun i x hi => absurd hi (by omega)), hw⟩ ?_
 rintro m e w ⟨k, hk, rfl, rfl, hfit, hw⟩
 refine z5 ?_
 refine x_call rfl rfl trivial cal_ref11_Vault_Len rfl (ct_ref11_Vault_Len (q := q) (v := v) (hw.b [blk q _ _, row 3 1 v.cv _ _, row 4 1 v.lv _ _, row 75 _ _ _ _])) rfl (fun w v186 hv => ?_)
 obtain ⟨rfl, hw⟩ := hv
 refine z2 ?_
 refine x_if rfl (fun h10 => ?_) (fun h10 => ?_)
 ·
  have hk' : k < v.c.length := by omega
  obtain ⟨x, hx⟩ : ∃ x, v.c[k]? = some x := ⟨_, List.getElem?_eq_getElem hk'⟩
  have hcg : (ints (cntsR v.c.length A))[k + 1]? = some (.int .i64 ((A.count ((k : Int) + 1) : Nat) : Int)) := by
   rw [ints, List.getElem?_map, cntsR_get (by omega)]; rfl
  refine z4 ?_
  refine x_draw [0, 1, 2, 3, 4, 5, 6, 7, 8, 9, 10, 11, 12] mixed (by kernel_rfl) ?_
  replace hw := hw.drawn (w.drawn + 1)
  refine z2 ?_
  refine x_idx1 rfl rfl trivial U_sl_int sz_int rfl rfl ⟨by omega, by omega⟩ ?_
  refine x_ld rfl rfl trivial rfl (Loads.one (v := .int .i64 ((A.count ((k : Int) + 1) : Nat) : Int)) one_int ((((hink _).of sF).at hw).at (by rw [show ((k : Int) + 1).toNat = k + 1 by omega]; exact hcg))) ?_
  refine z3 ?_
  refine x_ld rfl rfl trivial rfl (Loads.blk1 (v := .slice (some ⟨cb, 0, none⟩) v.c.length cc) one_sl_int hw pK (by rw [← hcv]; rfl)) ?_
  refine z2 ?_
  refine x_idx1 rfl rfl trivial U_sl_int sz_int rfl rfl ⟨by omega, by omega⟩ ?_
  refine x_ld rfl rfl trivial rfl (Loads.one (v := .int .i64 x) one_int ((((hck2 _).of sF).at hw).at (by rw [show ((k : Int) + 1 - 1).toNat = k by omega]; exact ints_of hx))) ?_
  refine z2 ?_
  refine x_if rfl (fun h11 => ?_) (fun h11 => ?_)
  ·
   refine z2 ?_
   refine x_build (v := .agg #[.int .i64 0, .int .i64 0, .int .i64 0, .int .i64 0, .int .i64 0, .int .i64 0, .int .i64 0, .slice none 0 0]) rfl rfl trivial rfl (fun w => by kernel_rfl) ?_
   refine x_stN (cs := RpV.cells ⟨rpZ, .slice none 0 0⟩) (l' := RpV.cells ⟨rpZ, .slice none 0 0⟩) rfl trivial rfl rfl many_api_Report rfl (by intro u hu; simp [RpV.cells] at hu; rcases hu with rfl | rfl | rfl | rfl | rfl | rfl | rfl | rfl <;> rfl) hw pK (by simp [RpV.cells]) rfl rfl (fun w hw => ?_)
   refine z3 ?_
   refine end2 rfl rfl ⟨_, rfl, (Loads.blkA (l := RpV.cells ⟨rpZ, .slice none 0 0⟩) many_api_Report hw pK rfl)⟩ rfl ⟨rpZ, 18, rfl, .inr ⟨hck, W, A, hdone, .inr ⟨fun hf => h11 (hf k x hx), rfl, rfl⟩⟩, rfl, ?_⟩
   exact (hw.b [blk b4 _ _, blk b7 _ _, row 3 1 (.slice ta _ tc) _ _, row 3 1 (.slice (some ⟨b20, 0, none⟩) _ _) _ _, row 4 1 (.slice (some ⟨b102, 0, none⟩) _ _) _ _, blk q _ _, row 3 1 v.cv _ _, row 4 1 v.lv _ _, row 75 _ _ _ _]).tail.tail.tail.tail.tail
  refine z6 ?_
  refine ⟨v.c.length - (k + 1), by omega, [(0, _), (4, _), (6, _), (7, _), (16, .int .i64 (((k + 1 : Nat) : Int) + 1))], sB, k + 1, by omega, rfl, rfl, fun i y hi hy => ?_, hw.b [row 3 1 (.slice ta _ tc) _ _, row 3 1 (.slice (some ⟨b20, 0, none⟩) _ _) _ _, row 4 1 (.slice (some ⟨b102, 0, none⟩) _ _) _ _, blk b7 _ _, blk b4 _ _]⟩
  by_cases hik : i < k
  ·exact hfit i y hik hy
  obtain rfl : i = k := by omega
  rw [hx] at hy
  cases hy
  exact Decidable.not_not.1 h11
 refine z3 ?_
 refine lA (l := [.int .i64 l.length, .int .i64 W.length, .int .i64 (cntK rd 1 W), .int .i64 (cntK rd 2 W), .int .i64 (cntB rd W), .int .i64 I0, .int .i64 Y0, .slice none 0 0]) many_api_Report hw ?_
 refine x_stN (cs := [.int .i64 l.length, .int .i64 W.length, .int .i64 (cntK rd 1 W), .int .i64 (cntK rd 2 W), .int .i64 (cntB rd W), .int .i64 I0, .int .i64 Y0, .slice none 0 0]) (l' := [.int .i64 l.length, .int .i64 W.length, .int .i64 (cntK rd 1 W), .int .i64 (cntK rd 2 W), .int .i64 (cntB rd W), .int .i64 I0, .int .i64 Y0, .slice none 0 0]) rfl trivial rfl rfl many_api_Report rfl (by intro u hu; simp at hu; rcases hu with rfl | rfl | rfl | rfl | rfl | rfl | rfl | rfl <;> rfl) hw pK (by simp) rfl rfl (fun w hw => ?_)
 refine z3 ?_
 refine end2 rfl rfl ⟨_, rfl, (Loads.blkA (l := [.int .i64 l.length, .int .i64 W.length, .int .i64 (cntK rd 1 W), .int .i64 (cntK rd 2 W), .int .i64 (cntB rd W), .int .i64 I0, .int .i64 Y0, .slice none 0 0]) many_api_Report hw pK rfl)⟩ rfl ⟨rpOf rd ts ts W, 0, ?_, .inr ⟨hck, W, A, hdone, .inl ⟨fun i x hx => hfit i x (by have := (List.getElem?_eq_some_iff.1 hx).1; omega) hx, rfl, rfl⟩⟩, rfl, ?_⟩
 ·rw [hI0, hY0]; unfold RpV.cells rpOf; rw [htl]
 exact (hw.b [blk b4 _ _, blk b7 _ _, row 3 1 (.slice ta _ tc) _ _, row 3 1 (.slice (some ⟨b20, 0, none⟩) _ _) _ _, row 4 1 (.slice (some ⟨b102, 0, none⟩) _ _) _ _, blk q _ _, row 3 1 v.cv _ _, row 4 1 v.lv _ _, row 75 _ _ _ _]).tail.tail.tail.tail.tail
end
theorem rvIs_load {refs : Int} {c : List Int} {l : List (Int × Pg)} {v : RvV} {S : List PgV} (hok : ldOk refs c l) (h : RvOk refs c l v S) : RvIs (loadVa refs c l).rd v S := by
 obtain ⟨h1, h2, h3⟩ := hok
 obtain ⟨h4, h5⟩ := ldErr_nodup h2
 have hpl : 1 ≤ (c.length : Int) ∧ (c.length : Int) ≤ 65536 ∧ 2 ≤ refs ∧ refs < 65536 := by
  refine Decidable.byContradiction fun hn => ?_
  unfold plErr at h1; rw [if_pos hn] at h1; cases h1
 have hec := h.ec
 have hnn : ∀ n, 0 ≤ cntP c n := fun n => by
  unfold cntP
  split
  ·rw [List.getD_eq_getElem?_getD]
   cases h : c[(n - 1).toNat]? with
   | none => simp
   | some y => exact (pl_nonneg h1 y (List.mem_of_getElem? h)).1
  omega
 refine ⟨by rw [hec]; omega, by rw [hec]; omega, by rw [h.el, hec]; exact posL_len, by rw [hec]; exact h.plen, fun n hn => ?_, fun n hn => ?_⟩
 ·rw [hec] at hn
  unfold Va.rd
  exact if_pos (by have := hnn n; show cntP c n = 0; omega)
 rw [hec] at hn
 obtain ⟨i, x, h6, h7, h8⟩ := cntP_pos.1 hn
 have hi := (List.getElem?_eq_some_iff.1 h6).1
 obtain ⟨pg, h9, h10⟩ := h.ep i hi
 have h11 := h3 i x h6 h7
 obtain ⟨y, hy, hyn⟩ := List.mem_map.1 h11
 have h12 : (l.find? fun x => x.1 == (i : Int) + 1).isSome = true := by
  rw [List.find?_isSome]; exact ⟨y, hy, by simp [hyn]⟩
 obtain ⟨z, hz⟩ := Option.isSome_iff_exists.1 h12
 rw [hz] at h10
 have h10 : pg.pg = z.2 ∧ pg ∈ S ∧ pg.Sm := h10
 refine ⟨pg, by rw [show (n - 1).toNat = i by omega]; exact h9, h10.2.1, h10.2.2, ?_, ?_⟩
 ·unfold Va.rd
  rw [if_neg (by show ¬ cntP c n = 0; omega)]
  show some ((((l.find? fun x => x.1 == n).map (·.2))).getD pgZ.pg) = _
  rw [h8, hz, h10.1]; rfl
 rw [h10.1]; exact (h5 z (List.mem_of_find?_eq_some hz)).2.2
def MetK (kv : KV) (met : List Int) : Prop := ∀ n, ∃ b : Int, (klook kv n).getD (.int .i64 0) = .int .i64 b ∧ (0 < b ↔ n ∈ met)
theorem MetK.nil : MetK [] [] := fun n => ⟨0, rfl, by simp⟩
section
variable {G : Gh} {L R : List Assn} {w : World}
theorem ct_walk_checker_enter {cq vq mq : Nat} {V : Va} {kv : KV} {met : List Int} {keys n : Int} (hok : V.Ok) (hw : Sat G (blk cq [.pointer (some ⟨vq, 0, none⟩), .map (some mq), .int .i64 keys] 129 :: mapI mq kv :: vaA vq V :: L) w) (hm : MetK kv met) :
  Calls Tryz.prog 101 #[.pointer (some ⟨cq, 0, none⟩), .int .i64 n] w (Ret fun r w' => ∃ (p' : PgV) (A : Assn) (kv' : KV), r = .tuple #[.agg p'.cells.toArray, .bool (decide (enterC V.rd met n ≠ none))] ∧ Ones p'.cells ∧ MetK kv' (if (enterC V.rd met n).isSome then n :: met else met) ∧ ((enterC V.rd met n = none ∧ A = both []) ∨ (enterC V.rd met n = some p'.pg ∧ A = pgO p' ∧ p'.Sm)) ∧
   Sat G (A :: blk cq [.pointer (some ⟨vq, 0, none⟩), .map (some mq), .int .i64 keys] 129 :: mapI mq kv' :: vaA vq V :: L) w') := by
 obtain ⟨b, hb, hbm⟩ := hm n
 refine calls_of_x (args := [_, _]) Tryz.func101 rfl Tryz.ntmps101 rfl rfl ?_
 refine z2 ?_
 refine x_alloc rfl rfl trivial z_api_Page hw rfl (fun w b4 hw => ?_)
 refine z7 ?_
 refine lD (v := .pointer (some ⟨vq, 0, none⟩)) one_p_vault_Vault hw ?_
 refine z1 ?_
 refine x_call rfl rfl trivial cal_vault_Vault_Read rfl (ct_vaA_Read (n := n) (hw.b [vaA vq V]) hok) rfl (fun w v14 hv => ?_)
 obtain ⟨p', er, A, rfl, hone, hcs, hw⟩ := hv
 refine z3 ?_
 refine x_alloc rfl rfl trivial z_api_Page hw rfl (fun w b6 hw => ?_)
 refine x_stN (cs := p'.cells) (l' := p'.cells) rfl trivial rfl rfl many_api_Page rfl hone hw pK (by simp [PgV.cells]) rfl rfl (fun w hw => ?_)
 refine z8 ?_
 refine xl_and (l1 := [3, 4, 5, 6, 7, 8, 9, 10]) (l2 := []) rfl (d := 27) (enterC V.rd met n = none) rfl ?_ ?_
 ·
  refine xl_split (d := 19) rfl (fun h1 => ?_) (fun h1 => ?_)
  ·
   refine z9 ?_
   refine cQ ?_
   first | (symm; rw [decide_eq_true_eq]; unfold enterC; rcases hcs with ⟨hr, -⟩ | ⟨-, h9, -⟩; (rw [hr]; simp); exact absurd h9 h1) | (refine decide_eq_decide.2 ?_; rw [hbm]; obtain ⟨hr, -⟩ := hcs.resolve_left (fun h => by have := h.2.1; omega); unfold enterC; rw [hr]; by_cases h9 : n ∈ met <;> simp [h9])
  refine z1 ?_
  refine x_nc rfl rfl ⟨_, rfl, rfl⟩ rfl ?_
  refine z1 ?_
  refine lD (v := .map (some mq)) one_m_int_int hw ?_
  refine z1 ?_
  refine x_lk1 (v0 := .int .i64 b) rfl rfl ⟨_, rfl, rfl⟩ U_m_int_int U_int zv_int rfl rfl hw pK hb ?_
  refine z3 ?_
  refine cQ ?_
  first | (symm; rw [decide_eq_true_eq]; unfold enterC; rcases hcs with ⟨hr, -⟩ | ⟨-, h9, -⟩; (rw [hr]; simp); exact absurd h9 h1) | (refine decide_eq_decide.2 ?_; rw [hbm]; obtain ⟨hr, -⟩ := hcs.resolve_left (fun h => by have := h.2.1; omega); unfold enterC; rw [hr]; by_cases h9 : n ∈ met <;> simp [h9])
 refine xl_nil ?_
 refine x_if rfl (fun h2 => ?_) (fun h2 => ?_)
 ·
  refine z2 ?_
  refine x_build (v := .agg pgZ.cells.toArray) rfl rfl trivial rfl (fun w => by kernel_rfl) ?_
  refine x_stN (cs := pgZ.cells) (l' := pgZ.cells) rfl trivial rfl rfl many_api_Page rfl pgZ_ones hw pK (by simp [pgZ, PgV.cells]) rfl rfl (fun w hw => ?_)
  refine z3 ?_
  refine end2 rfl rfl ⟨_, rfl, (Loads.blkA (l := pgZ.cells) many_api_Page hw pK rfl)⟩ rfl ⟨pgZ, both [], kv, by rw [h2]; rfl, pgZ_ones, by rw [h2]; exact hm, .inl ⟨h2, rfl⟩, ?_⟩
  have hz : ∃ B, Sat G (B :: blk b6 p'.cells 75 :: blk b4 pgZ.cells 75 :: blk cq [.pointer (some ⟨vq, 0, none⟩), .map (some mq), .int .i64 keys] 129 :: mapI mq kv :: vaA vq V :: L) w := ⟨A, hw.b [A, blk b6 _ _, blk b4 _ _, blk cq _ _, mapI _ _, vaA vq V]⟩
  obtain ⟨B, hz⟩ := hz
  exact Sat.both_in (M := []) hz.tail.tail.tail
 obtain ⟨p, hp⟩ : ∃ p, enterC V.rd met n = some p := Option.ne_none_iff_exists'.1 h2
 obtain ⟨hnm, hrd⟩ := enterC_some hp
 obtain ⟨hr, -, rfl, hps⟩ := hcs.resolve_left (fun h => by rw [h.1] at hrd; cases hrd)
 rw [hrd] at hr
 cases hr
 refine z6 ?_
 refine lD (v := .map (some mq)) one_m_int_int hw ?_
 refine z1 ?_
 refine x_mu rfl trivial U_m_int_int U_int rfl rfl rfl hw pK rfl (fun w hw => ?_)
 refine z3 ?_
 refine lA (l := p'.cells) many_api_Page hw ?_
 refine x_stN (cs := p'.cells) (l' := p'.cells) rfl trivial rfl rfl many_api_Page rfl hone hw pK (by simp [PgV.cells]) rfl rfl (fun w hw => ?_)
 refine z3 ?_
 refine end2 rfl rfl ⟨_, rfl, (Loads.blkA (l := p'.cells) many_api_Page hw pK rfl)⟩ rfl ⟨p', pgO p', kput kv n (.int .i64 1), by rw [decide_eq_true h2], hone, ?_, .inr ⟨hp, rfl, hps⟩, ?_⟩
 ·rw [hp]
  intro j
  rw [klook_put]
  by_cases hj : j = n
  ·subst hj
   exact ⟨1, by simp, by simp⟩
  obtain ⟨b', hb', hbm'⟩ := hm j
  exact ⟨b', by rw [if_neg hj]; exact hb', by rw [hbm']; simp [hj]⟩
 exact (hw.b [blk b6 _ _, blk b4 _ _, pgO p', blk cq _ _, mapI _ _, vaA vq V]).tail.tail
theorem ct_walk_checker_item {cq vq mq : Nat} {V : Va} {kv : KV} {met : List Int} {keys : Int} {x : ItV} {r : RgV} (hok : V.Ok) (hw : Sat G (blk cq [.pointer (some ⟨vq, 0, none⟩), .map (some mq), .int .i64 keys] 129 :: mapI mq kv :: vaA vq V :: L) w) (hm : MetK kv met) (hk : 0 ≤ keys ∧ keys ≤ 1000000000) (hx : x.Ok L) (hxs : x.it.size ≤ 1000000000) (hr : r.Ok L) :
  Calls Tryz.prog 102 #[.pointer (some ⟨cq, 0, none⟩), .agg x.cells.toArray, .agg r.cells.toArray] w (Ret fun u w' => ∃ kv', u = .int .i64 (itemC V.rd x.it r.rg (met, keys)).1 ∧ MetK kv' (itemC V.rd x.it r.rg (met, keys)).2.1 ∧ Sat G (blk cq [.pointer (some ⟨vq, 0, none⟩), .map (some mq), .int .i64 (itemC V.rd x.it r.rg (met, keys)).2.2] 129 :: mapI mq kv' :: vaA vq V :: L) w') := by
 refine calls_of_x (args := [_, _, _]) Tryz.func102 rfl Tryz.ntmps102 rfl rfl ?_
 refine z2 ?_
 refine x_box rfl rfl trivial rfl rfl hw rfl (fun w b4 hw => ?_)
 refine x_box rfl rfl trivial rfl rfl hw rfl (fun w b5 hw => ?_)
 refine z5 ?_
 refine lA (l := r.cells) many_api_Range hw ?_
 refine z1 ?_
 refine lD (v := x.kv) one_sl_uint8 hw ?_
 refine x_call rfl rfl trivial cal_span_Has rfl (ct_span_Has (r := r) (k := x.it.key) hw (hr.of sF) (hx.k.of sF)) rfl (fun w v15 hv => ?_)
 obtain ⟨rfl, hw⟩ := hv
 refine x_notp rfl rfl trivial rfl ?_
 refine xl_nil ?_
 refine x_if rfl (fun h1 => ?_) (fun h1 => ?_)
 ·
  refine z5 ?_
  exact end1 rfl rfl rfl (by
 have e : itemC V.rd x.it r.rg (met, keys) = (11, met, keys) := by unfold itemC; rw [if_pos (by simpa using h1)]
 rw [e]
 exact ⟨kv, rfl, hm, (hw.b [blk b5 _ _, blk b4 _ _]).tail.tail⟩)
 have hhas : hasR r.rg x.it.key := by simpa using h1
 refine z6 ?_
 refine lD (v := .int .i64 keys) one_int hw ?_
 refine z3 ?_
 refine x_st1 (l' := [.pointer (some ⟨vq, 0, none⟩), .map (some mq), .int .i64 (keys + 1)]) rfl trivial rfl rfl one_int rfl hw pK rfl rfl rfl (fun w hw => ?_)
 refine z4 ?_
 refine lD (v := .int .i64 x.it.size) one_int hw ?_
 refine z8 ?_
 refine x_if rfl (fun h2 => ?_) (fun h2 => ?_)
 ·
  refine z5 ?_
  exact end1 rfl rfl rfl (by
 have e : itemC V.rd x.it r.rg (met, keys) = (0, met, keys + 1) := by unfold itemC; rw [if_neg (not_not_intro hhas), if_pos h2]
 rw [e]
 exact ⟨kv, rfl, hm, (hw.b [blk b5 _ _, blk b4 _ _, blk cq _ _]).tail.tail⟩)
 have e : itemC V.rd x.it r.rg (met, keys) = ((chainC V.rd x.it.size.toNat x.it.size x.it.child met).1, (chainC V.rd x.it.size.toNat x.it.size x.it.child met).2, keys + 1) := by unfold itemC; rw [if_neg (not_not_intro hhas), if_neg h2]
 rw [e]
 refine z5 ?_
 refine lD (v := .int .i64 x.it.child) one_int hw ?_
 refine z3 ?_
 have hz := (hw.b [blk b5 _ _, blk b4 _ _, blk cq _ _, mapI _ _, vaA vq V]).tail.tail
 clear hw
 have hw := hz
 clear hz
 refine x_loop (fun m e w => ∃ (f : Nat) (left n : Int) (met' : List Int) (kv' : KV), m = f + 1 ∧ e = [(0, .pointer (some ⟨cq, 0, none⟩)), (7, .int .i64 left), (8, .int .i64 n)] ∧ (left ≤ f ∧ left ≤ 1000000000 ∧ 0 ≤ left ∧ MetK kv' met' ∧ chainC V.rd x.it.size.toNat x.it.size x.it.child met = chainC V.rd f left n met') ∧ Sat G (blk cq [.pointer (some ⟨vq, 0, none⟩), .map (some mq), .int .i64 (keys + 1)] 129 :: mapI mq kv' :: vaA vq V :: L) w)
  (m := x.it.size.toNat + 1) (e₀ := [(0, .pointer (some ⟨cq, 0, none⟩)), (7, .int .i64 x.it.size), (8, .int .i64 x.it.child)]) sB
  ⟨x.it.size.toNat, x.it.size, x.it.child, met, kv, rfl, rfl, ⟨by omega, hxs, by omega, hm, rfl⟩, hw⟩ ?_
 rintro m e w ⟨f, left, n, met', kv', rfl, rfl, ⟨hlf, hl9, hl0, hml, hch⟩, hw⟩
 refine z6 ?_
 refine x_if rfl (fun h3 => ?_) (fun h3 => ?_)
 ·
  obtain ⟨f, rfl⟩ : ∃ g, f = g + 1 := ⟨f - 1, by omega⟩
  rw [chainC, if_neg (by omega)] at hch
  refine z6 ?_
  refine x_call rfl rfl trivial cal_walk_checker_enter rfl (ct_walk_checker_enter (n := n) (met := met') hok hw hml) rfl (fun w v35 hv => ?_)
  obtain ⟨p', A, kv2, rfl, hone, hm2, hcs, hw⟩ := hv
  refine z3 ?_
  refine x_alloc rfl rfl trivial z_api_Page hw rfl (fun w b9 hw => ?_)
  refine x_stN (cs := p'.cells) (l' := p'.cells) rfl trivial rfl rfl many_api_Page rfl hone hw pK (by simp [PgV.cells]) rfl rfl (fun w hw => ?_)
  refine z6 ?_
  refine x_notp rfl rfl trivial rfl ?_
  refine z1 ?_
  refine xl_and (l1 := [3, 4, 5, 6]) (l2 := []) rfl (d := 44) (¬ (enterC V.rd met' n).map Pg.kind = some 3) rfl ?_ ?_
  ·
   refine xl_split (d := 40) rfl (fun h4 => ?_) (fun h4 => ?_)
   ·
    refine z5 ?_
    refine cQ ?_
    first | exact (decide_eq_true (by have h5 : enterC V.rd met' n = none := Decidable.not_not.1 h4
                                      rw [h5]; simp)).symm | (obtain ⟨hp, -, -⟩ := hcs.resolve_left (fun h => h4 (not_not_intro h.1)); rw [hp]; refine decide_eq_decide.2 ?_; show ¬ p'.kind = 3 ↔ ¬ some p'.kind = some 3; simp) | (obtain ⟨hp, -, -⟩ := hcs.resolve_left (fun h => (Decidable.not_not.1 h4) h.1); rw [hp]; refine decide_eq_decide.2 ?_; show ¬ p'.kind = 3 ↔ ¬ some p'.kind = some 3; simp)
   refine z1 ?_
   refine lD (v := .int .i64 p'.kind) one_int hw ?_
   refine z3 ?_
   refine cQ ?_
   first | exact (decide_eq_true (by have h5 : enterC V.rd met' n = none := Decidable.not_not.1 h4
                                     rw [h5]; simp)).symm | (obtain ⟨hp, -, -⟩ := hcs.resolve_left (fun h => h4 (not_not_intro h.1)); rw [hp]; refine decide_eq_decide.2 ?_; show ¬ p'.kind = 3 ↔ ¬ some p'.kind = some 3; simp) | (obtain ⟨hp, -, -⟩ := hcs.resolve_left (fun h => (Decidable.not_not.1 h4) h.1); rw [hp]; refine decide_eq_decide.2 ?_; show ¬ p'.kind = 3 ↔ ¬ some p'.kind = some 3; simp)
  refine xl_nil ?_
  refine x_if rfl (fun h5 => ?_) (fun h5 => ?_)
  ·
   refine z5 ?_
   exact end1 rfl rfl rfl (by
 have e2 : chainC V.rd x.it.size.toNat x.it.size x.it.child met = (15, if (enterC V.rd met' n).isSome then n :: met' else met') := by
  rw [hch]
  cases he : enterC V.rd met' n with
  | none => rfl
  | some p =>
   rw [he] at h5
   simp only
   rw [if_pos (by simpa using h5)]
   rfl
 rw [e2]
 exact ⟨kv2, rfl, hm2, (hw.b [blk b9 _ _, A]).tail.tail⟩)
  obtain ⟨hp, rfl, hps⟩ := hcs.resolve_left (fun h => h5 (by rw [h.1]; simp))
  rw [hp] at h5 hm2 hch
  have hk3 : p'.pg.kind = 3 := by simpa using h5
  simp only at hch
  rw [if_neg (not_not_intro hk3)] at hch
  obtain ⟨da, dc, hd⟩ := ((pgParts_ok hps pK).data.at hw).form
  refine z4 ?_
  refine x_min2 rfl rfl trivial rfl rfl ?_
  rw [Int.min_comm]
  refine z13 ?_
  refine x_ld rfl rfl trivial rfl (Loads.blk1 (v := .slice da p'.data.length dc) one_sl_uint8 hw pK (by rw [← hd]; rfl)) ?_
  refine z4 ?_
  refine xl_and (l1 := [6, 7, 8, 9, 10, 11, 12]) (l2 := []) rfl (d := 62) (¬ ((p'.data.length : Int) = min 480 left ∧ (p'.next = 0 ↔ left - min 480 left = 0))) rfl ?_ ?_
  ·
   refine xl_split (d := 55) rfl (fun h6 => ?_) (fun h6 => ?_)
   ·
    refine z8 ?_
    refine cQ ?_
    first | (symm; rw [decide_eq_true_eq]; exact fun h => h6 h.1) | exact decide_eq_decide.2 ⟨fun h h2 => h (decide_eq_decide.2 h2.2), fun h h2 => h ⟨Decidable.not_not.1 h6, decide_eq_decide.1 h2⟩⟩
   refine z1 ?_
   refine lD (v := .int .i64 p'.next) one_int hw ?_
   refine z3 ?_
   refine x_neb rfl rfl ⟨_, rfl, rfl⟩ (by kernel_rfl) U_bool rfl rfl ?_
   refine z2 ?_
   refine cQ ?_
   first | (symm; rw [decide_eq_true_eq]; exact fun h => h6 h.1) | exact decide_eq_decide.2 ⟨fun h h2 => h (decide_eq_decide.2 h2.2), fun h h2 => h ⟨Decidable.not_not.1 h6, decide_eq_decide.1 h2⟩⟩
  refine xl_nil ?_
  refine x_if rfl (fun h7 => ?_) (fun h7 => ?_)
  ·
   refine z5 ?_
   exact end1 rfl rfl rfl (by
 rw [if_pos (show ¬ ((p'.pg.data.length : Int) = min 480 left ∧ (p'.pg.next = 0 ↔ left - min 480 left = 0)) from h7)] at hch
 rw [hch]
 exact ⟨kv2, rfl, hm2, (hw.b [blk b9 _ _, pgO p']).tail.tail⟩)
  rw [if_neg (show ¬ ¬ ((p'.pg.data.length : Int) = min 480 left ∧ (p'.pg.next = 0 ↔ left - min 480 left = 0)) from h7)] at hch
  refine z3 ?_
  refine lD (v := .int .i64 p'.next) one_int hw ?_
  refine z2 ?_
  exact ⟨f + 1, by omega, [(0, _), (7, _), (8, _)], sB, f, left - min 480 left, p'.next, n :: met', kv2, rfl, rfl, ⟨by omega, by omega, by omega, hm2, hch⟩, (hw.b [blk b9 _ _, pgO p']).tail.tail⟩
 refine z6 ?_
 exact end1 rfl rfl rfl (by
 rw [hch, chainC_done (by omega)]
 exact ⟨kv', rfl, hml, hw⟩)
end
theorem Va.rdok {V : Va} (h : V.Ok) : RdOk V.rd := fun n p hp => Va.rd_check h hp
theorem Va.rd_in {V : Va} {n : Int} (h : V.rd n ≠ none) : 1 ≤ n ∧ n ≤ (V.po.c.length : Int) := by
 unfold Va.rd at h
 split at h
 ·exact absurd rfl h
 rename_i h1
 have h1 : ¬ cntP V.po.c n = 0 := h1
 unfold cntP at h1
 split at h1
 ·assumption
 exact absurd rfl h1
theorem Va.met_le {V : Va} (h : V.Ok) {met : List Int} (hn : met.Nodup) (hm : ∀ n ∈ met, V.rd n ≠ none) : met.length ≤ 65536 := by
 have h1 := nodup_le hn (m := (List.range V.po.c.length).map fun i : Nat => (i : Int) + 1) (fun n hx => by
  have h2 := Va.rd_in (hm n hx)
  exact List.mem_map.2 ⟨(n - 1).toNat, List.mem_range.2 (by omega), by omega⟩)
 rw [List.length_map, List.length_range] at h1
 have := h.po.len
 omega
theorem wrong_iff {p : Pg} (h : checkP p = 0) (k : Nat) : wrongC k p ↔ (¬ p.level = k ∨ ¬ (p.kind = 1 ↔ (k : Int) = 0)) ∨ p.kind = 3 := by
 obtain ⟨h1, h2, h3, h4⟩ := check_form h
 unfold wrongC
 by_cases hk : k = 0
 ·rw [if_pos hk]
  by_cases h5 : p.kind = 1
  ·have := h2 h5; omega
  omega
 rw [if_neg hk]
 by_cases h5 : p.kind = 1
 ·have := h2 h5; omega
 by_cases h6 : p.kind = 2
 ·omega
 have := h4 h5 h6; omega
def CkPageP (k : Nat) : Prop := ∀ {G : Gh} {L : List Assn} {w : World} {cq vq mq : Nat} {V : Va} {kv : KV} {met : List Int} {keys n least : Int} {r : RgV}, V.Ok → Sat G (blk cq [.pointer (some ⟨vq, 0, none⟩), .map (some mq), .int .i64 keys] 129 :: mapI mq kv :: vaA vq V :: L) w → MetK kv met → Ks V.rd 0 (met, keys) → r.Ok L →
 Calls Tryz.prog 55 #[.pointer (some ⟨cq, 0, none⟩), .int .i64 n, .int .i64 k, .int .i64 least, .agg r.cells.toArray] w (Ret fun u w' => ∃ kv', u = .int .i64 (pageC V.rd k n least r.rg (met, keys)).1 ∧ MetK kv' (pageC V.rd k n least r.rg (met, keys)).2.1 ∧ Sat G (blk cq [.pointer (some ⟨vq, 0, none⟩), .map (some mq), .int .i64 (pageC V.rd k n least r.rg (met, keys)).2.2] 129 :: mapI mq kv' :: vaA vq V :: L) w')
section
variable {G : Gh} {L R : List Assn} {w : World}
theorem ct_pageP_s {k : Nat} (hk : k ≤ 1000) (ih : ∀ j, k = j + 1 → CkPageP j) {cq vq mq : Nat} {V : Va} {kv : KV} {met : List Int} {keys n least : Int} {r : RgV} (hok : V.Ok) (hw : Sat G (blk cq [.pointer (some ⟨vq, 0, none⟩), .map (some mq), .int .i64 keys] 129 :: mapI mq kv :: vaA vq V :: L) w) (hm : MetK kv met) (hks : Ks V.rd 0 (met, keys)) (hr : r.Ok L) :
  Calls Tryz.prog 55 #[.pointer (some ⟨cq, 0, none⟩), .int .i64 n, .int .i64 k, .int .i64 least, .agg r.cells.toArray] w (Ret fun u w' => ∃ kv', u = .int .i64 (pageC V.rd k n least r.rg (met, keys)).1 ∧ MetK kv' (pageC V.rd k n least r.rg (met, keys)).2.1 ∧ Sat G (blk cq [.pointer (some ⟨vq, 0, none⟩), .map (some mq), .int .i64 (pageC V.rd k n least r.rg (met, keys)).2.2] 129 :: mapI mq kv' :: vaA vq V :: L) w') := by
 refine calls_of_x (args := [_, _, _, _, _]) Tryz.func55 rfl Tryz.ntmps55 rfl rfl ?_
 refine z2 ?_
 refine x_box rfl rfl trivial rfl rfl hw rfl (fun w b9 hw => ?_)
 refine z6 ?_
 refine x_call rfl rfl trivial cal_walk_checker_enter rfl (ct_walk_checker_enter (n := n) (met := met) hok (hw.b [blk cq _ _, mapI _ _, vaA vq V]) hm) rfl (fun w v20 hv => ?_)
 obtain ⟨p', A, kv2, rfl, hone, hm2, hcs, hw⟩ := hv
 refine z3 ?_
 refine x_alloc rfl rfl trivial z_api_Page hw rfl (fun w b11 hw => ?_)
 refine x_stN (cs := p'.cells) (l' := p'.cells) rfl trivial rfl rfl many_api_Page rfl hone hw pK (by simp [PgV.cells]) rfl rfl (fun w hw => ?_)
 refine z7 ?_
 refine x_notp rfl rfl trivial rfl ?_
 refine z1 ?_
 refine xl_and (l1 := [3, 4, 5, 6, 7]) (l2 := [8, 9, 10, 11, 12, 13, 14, 15, 16, 17, 18, 19, 20, 21]) rfl (d := 31) (enterC V.rd met n = none ∨ ¬ p'.level = (k : Int)) rfl ?_ ?_
 ·
  refine xl_split (d := 26) rfl (fun h1 => ?_) (fun h1 => ?_)
  ·
   refine z6 ?_
   refine cQ ?_
   first | exact (decide_eq_true (Or.inl (Decidable.not_not.1 h1))).symm | exact decide_eq_decide.2 ⟨.inr, fun h => h.resolve_left (Decidable.not_not.1 h1)⟩
  refine z1 ?_
  refine lD (v := .int .i64 p'.level) one_int hw ?_
  refine z4 ?_
  refine cQ ?_
  first | exact (decide_eq_true (Or.inl (Decidable.not_not.1 h1))).symm | exact decide_eq_decide.2 ⟨.inr, fun h => h.resolve_left (Decidable.not_not.1 h1)⟩
 refine z1 ?_
 refine xl_and (l1 := [9, 10, 11, 12, 13, 14, 15]) (l2 := [16, 17, 18, 19, 20, 21]) rfl (d := 39) ((enterC V.rd met n = none ∨ ¬ p'.level = (k : Int)) ∨ ¬ (p'.kind = 1 ↔ (k : Int) = 0)) rfl ?_ ?_
 ·
  refine xl_split (d := 32) rfl (fun h2 => ?_) (fun h2 => ?_)
  ·
   refine z8 ?_
   refine cQ ?_
   first | exact (decide_eq_true (Or.inl h2)).symm | exact decide_eq_decide.2 ⟨fun h => .inr (fun h3 => h (decide_eq_decide.2 h3)), fun h h3 => h.resolve_left h2 (decide_eq_decide.1 h3)⟩
  refine z1 ?_
  refine lD (v := .int .i64 p'.kind) one_int hw ?_
  refine z3 ?_
  refine x_neb rfl rfl ⟨_, rfl, rfl⟩ (by kernel_rfl) U_bool rfl rfl ?_
  refine z2 ?_
  refine cQ ?_
  first | exact (decide_eq_true (Or.inl h2)).symm | exact decide_eq_decide.2 ⟨fun h => .inr (fun h3 => h (decide_eq_decide.2 h3)), fun h h3 => h.resolve_left h2 (decide_eq_decide.1 h3)⟩
 refine z1 ?_
 refine xl_and (l1 := [17, 18, 19, 20]) (l2 := [21]) rfl (d := 44) (((enterC V.rd met n = none ∨ ¬ p'.level = (k : Int)) ∨ ¬ (p'.kind = 1 ↔ (k : Int) = 0)) ∨ p'.kind = 3) rfl ?_ ?_
 ·
  refine xl_split (d := 40) rfl (fun h3 => ?_) (fun h3 => ?_)
  ·
   refine z5 ?_
   refine cQ ?_
   first | exact (decide_eq_true (Or.inl h3)).symm | exact decide_eq_decide.2 ⟨.inr, fun h => h.resolve_left h3⟩
  refine z1 ?_
  refine lD (v := .int .i64 p'.kind) one_int hw ?_
  refine z3 ?_
  refine cQ ?_
  first | exact (decide_eq_true (Or.inl h3)).symm | exact decide_eq_decide.2 ⟨.inr, fun h => h.resolve_left h3⟩
 refine z2 ?_
 refine x_if rfl (fun h4 => ?_) (fun h4 => ?_)
 ·
  refine z5 ?_
  exact end1 rfl rfl rfl (by
 rcases hcs with ⟨he, rfl⟩ | ⟨he, rfl, hps⟩
 ·rw [pageC_none he]
  rw [he] at hm2
  exact ⟨kv2, rfl, hm2, (hw.b [blk b11 _ _, both [], blk b9 _ _]).tail.tail.tail⟩
 ·have hck := Va.rdok hok n _ (enterC_some he).2
  rw [pageC_some he, if_pos ((wrong_iff hck k).2 (by
   rcases h4 with (h4 | h4) | h4
   ·rcases h4 with h4 | h4
    ·rw [he] at h4; cases h4
    ·exact .inl (.inl h4)
   ·exact .inl (.inr h4)
   ·exact .inr h4))]
  rw [he] at hm2
  exact ⟨kv2, rfl, hm2, (hw.b [blk b11 _ _, pgO p', blk b9 _ _]).tail.tail.tail⟩)
 obtain ⟨he, rfl, hps⟩ := hcs.resolve_left (fun h => h4 (.inl (.inl (.inl h.1))))
 have hck := Va.rdok hok n _ (enterC_some he).2
 have hwr : ¬ wrongC k p'.pg := fun h => h4 (by
   rcases (wrong_iff hck k).1 h with (h | h) | h
   ·exact .inl (.inl (.inr h))
   ·exact .inl (.inr h)
   ·exact .inr h)
 have hks2 := hks.enter he
 rw [pageC_some he, if_neg hwr]
 rw [he] at hm2
 have hpl : p'.pg.items.length = p'.l.length := by simp [PgV.pg]
 have hp8 := (check_items hck).1
 obtain ⟨ia, ic, hs⟩ := hps.form hw pK
 rw [hpl]
 refine z3 ?_
 refine x_ld rfl rfl trivial rfl (Loads.blk1 (v := .slice ia p'.l.length ic) one_sl_api_Item hw pK (by rw [← hs]; rfl)) ?_
 refine z5 ?_
 refine x_if rfl (fun h5 => ?_) (fun h5 => ?_)
 ·
  refine z5 ?_
  exact end1 rfl rfl rfl (by
 rw [if_pos h5]
 exact ⟨kv2, rfl, hm2, (hw.b [blk b11 _ _, pgO p', blk b9 _ _]).tail.tail.tail⟩)
 rw [if_neg h5]
 obtain ⟨fin, hfin⟩ : ∃ fin, fin = foldC (stepC V.rd k p'.pg r.rg) 0 p'.pg.items (n :: met, keys) := ⟨_, rfl⟩
 rw [← hfin]
 refine z5 ?_
 refine x_ld rfl rfl trivial rfl (Loads.blk1 (v := .slice ia p'.l.length ic) one_sl_api_Item hw pK (by rw [← hs]; rfl)) ?_
 refine z4 ?_
 have hz := (hw.b [pgO p', blk b11 _ _, blk b9 _ _, blk cq _ _, mapI _ _, vaA vq V])
 clear hw
 have hw := hz
 clear hz
 refine x_loop (fun m e w => ∃ (i : Nat) (met' : List Int) (keys' : Int) (kv' : KV), i ≤ p'.l.length ∧ m = p'.l.length - i ∧ e = [(0, .pointer (some ⟨cq, 0, none⟩)), (2, .int .i64 k), (9, .pointer (some ⟨b9, 0, none⟩)), (11, .pointer (some ⟨b11, 0, none⟩)), (52, .slice ia p'.l.length ic), (53, .int .i64 p'.l.length), (54, .int .i64 i)] ∧ (MetK kv' met' ∧ Ks V.rd (8 - i) (met', keys') ∧ fin = foldC (stepC V.rd k p'.pg r.rg) i (p'.pg.items.drop i) (met', keys')) ∧ Sat G (pgO p' :: blk b11 p'.cells 75 :: blk b9 r.cells 64 :: blk cq [.pointer (some ⟨vq, 0, none⟩), .map (some mq), .int .i64 keys'] 129 :: mapI mq kv' :: vaA vq V :: L) w)
  (m := p'.l.length) (e₀ := [(0, .pointer (some ⟨cq, 0, none⟩)), (2, .int .i64 k), (9, .pointer (some ⟨b9, 0, none⟩)), (11, .pointer (some ⟨b11, 0, none⟩)), (52, .slice ia p'.l.length ic), (53, .int .i64 p'.l.length), (54, .int .i64 (0 : Nat))]) sB
  ⟨0, n :: met, keys, kv2, Nat.zero_le _, rfl, rfl, ⟨hm2, hks2, hfin⟩, hw⟩ ?_
 rintro m e w ⟨i, met', keys', kv', hi, rfl, rfl, ⟨hml, hki, hfo⟩, hw⟩
 refine z5 ?_
 refine x_if rfl (fun h6 => ?_) (fun h6 => ?_)
 ·
  have hi' : i < p'.l.length := by omega
  obtain ⟨x, hx⟩ : ∃ x, p'.l[i]? = some x := ⟨_, List.getElem?_eq_getElem hi'⟩
  have hxr : (p'.l.map ItV.cells)[i]? = some x.cells := by rw [List.getElem?_map, hx]; rfl
  have hxi : p'.pg.items[i]? = some x.it := by show (p'.l.map ItV.it)[_]? = _; rw [List.getElem?_map, hx]; rfl
  rw [drop_cons hxi, foldC] at hfo
  have hpo : ∀ R, p'.Ok (pgO p' :: R) := fun R => pgParts_ok hps .here
  have hxo : ∀ R, x.Ok (pgO p' :: R) := fun R => (hpo R).its.it x (List.mem_of_getElem? hx)
  have hil : ∀ R, Knows (pgO p' :: R) (SlT 4 (.slice ia p'.l.length ic) (p'.l.map ItV.cells)) := fun R => by rw [← hs]; exact (hpo R).its.sl
  obtain ⟨ib, io, rfl⟩ := (((hil _).of sF).at hw).nn (by rw [List.length_map]; omega)
  have hml9 := Va.met_le hok hki.nd hki.th
  have hkl := hki.lo
  have hkh := hki.hi
  simp only at hkl hkh hml9
  obtain ⟨xa, xc, xa2, xc2, hxk, hxv, hxc⟩ := (hxo _).form hw
  refine z6 ?_
  refine x_idx rfl rfl trivial U_sl_api_Item sz_api_Item rfl rfl ⟨by omega, by omega⟩ ?_
  refine x_ld rfl rfl trivial rfl (Loads.many (cs := x.cells) many_api_Item rfl (by have h := (((hil _).of sF).at hw).at hxr; rw [Int.toNat_natCast]; exact h)) ?_
  refine x_alloc rfl rfl trivial z_api_Item hw rfl (fun w b14 hw => ?_)
  refine z1 ?_
  refine x_stN (cs := x.cells) (l' := x.cells) rfl trivial rfl rfl many_api_Item rfl (by rw [hxc]; intro u hu; simp at hu; rcases hu with rfl | rfl | rfl | rfl <;> rfl) hw pK (by simp [ItV.cells]) rfl rfl (fun w hw => ?_)
  refine z11 ?_
  refine x_if rfl (fun h7 => ?_) (fun h7 => ?_)
  ·
   obtain rfl : k = 0 := by omega
   have hk1 : p'.pg.kind = 1 := by
    refine Decidable.byContradiction fun h => hwr ?_
    unfold wrongC; rw [if_pos rfl]; exact h
   have hxs := leaf_size hck hk1 x.it (List.mem_of_getElem? hxi)
   have hz := hw.b [blk cq _ _, mapI _ _, vaA vq V, pgO p']
   refine z2 ?_
   refine lA (l := x.cells) many_api_Item hw ?_
   refine lA (l := r.cells) many_api_Range hw ?_
   refine x_call rfl rfl trivial cal_walk_checker_item rfl (ct_walk_checker_item (x := x) (r := r) hok hz hml (by omega) (hxo _) (by omega) (hr.of sF)) rfl (fun w v64 hv => ?_)
   obtain ⟨kv3, rfl, hml3, hw⟩ := hv
   have hst : stepC V.rd 0 p'.pg r.rg i x.it (met', keys') = itemC V.rd x.it r.rg (met', keys') := rfl
   rw [hst] at hfo
   have hki3 : Ks V.rd (8 - (i + 1)) (itemC V.rd x.it r.rg (met', keys')).2 := Ks.item (hki.mono (by omega))
   obtain ⟨res, hres⟩ : ∃ res, res = itemC V.rd x.it r.rg (met', keys') := ⟨_, rfl⟩
   rw [← hres] at hfo hml3 hw hki3
   rw [← hres]
   refine z7 ?_
   refine x_if rfl (fun h8 => ?_) (fun h8 => ?_)
   ·
    refine z6 ?_
    exact end1 rfl rfl rfl (by
 rw [if_pos h8] at hfo
 rw [hfo]
 exact ⟨kv3, rfl, hml3, (hw.b [blk b14 _ _, blk b11 _ _, pgO p', blk b9 _ _]).tail.tail.tail.tail⟩)
   refine z5 ?_
   rw [if_neg h8] at hfo
   exact ⟨p'.l.length - (i + 1), by omega, [(0, _), (2, _), (9, _), (11, _), (52, _), (53, _), (54, .int .i64 (i + 1 : Nat))], sB, i + 1, res.2.1, res.2.2, kv3, by omega, rfl, rfl, ⟨hml3, hki3, hfo⟩, (hw.b [blk b14 _ _, pgO p', blk b11 _ _, blk b9 _ _]).tail⟩
  obtain ⟨j, rfl⟩ : ∃ j, k = j + 1 := ⟨k - 1, by omega⟩
  refine z3 ?_
  refine x_ld rfl rfl trivial rfl (Loads.blk1 (v := .slice xa x.it.key.length xc) one_sl_uint8 hw pK (by rw [← hxk]; rfl)) ?_
  refine x_build (v := .agg #[.slice xa x.it.key.length xc, .slice none 0 0, .bool true]) rfl rfl trivial rfl (fun w => by kernel_rfl) ?_
  refine x_alloc rfl rfl trivial z_api_Range hw rfl (fun w b16 hw => ?_)
  refine x_stN (cs := [.slice xa x.it.key.length xc, .slice none 0 0, .bool true]) (l' := [.slice xa x.it.key.length xc, .slice none 0 0, .bool true]) rfl trivial rfl rfl many_api_Range rfl (by intro u hu; simp at hu; rcases hu with rfl | rfl | rfl <;> rfl) hw pK (by simp) rfl rfl (fun w hw => ?_)
  refine xl_nil ?_
  refine x_join (fun e w => ∃ ow : RgV, e = [(0, .pointer (some ⟨cq, 0, none⟩)), (2, .int .i64 ((j + 1 : Nat) : Int)), (9, .pointer (some ⟨b9, 0, none⟩)), (11, .pointer (some ⟨b11, 0, none⟩)), (14, .pointer (some ⟨b14, 0, none⟩)), (16, .pointer (some ⟨b16, 0, none⟩)), (52, .slice (some ⟨ib, io, none⟩) p'.l.length ic), (53, .int .i64 p'.l.length), (54, .int .i64 i)] ∧ (ow.rg = ownR p'.pg i ∧ ∀ R, ow.Ok (pgO p' :: R)) ∧ Sat G (blk b16 ow.cells 64 :: blk b14 x.cells 114 :: pgO p' :: blk b11 p'.cells 75 :: blk b9 r.cells 64 :: blk cq [.pointer (some ⟨vq, 0, none⟩), .map (some mq), .int .i64 keys'] 129 :: mapI mq kv' :: vaA vq V :: L) w) ?_ ?_
  ·
   refine z5 ?_
   refine x_ld rfl rfl trivial rfl (Loads.blk1 (v := .slice (some ⟨ib, io, none⟩) p'.l.length ic) one_sl_api_Item hw pK (by rw [← hs]; rfl)) ?_
   refine z3 ?_
   refine x_if rfl (fun h9 => ?_) (fun h9 => ?_)
   ·
    obtain ⟨y, hy⟩ : ∃ y, p'.l[i + 1]? = some y := ⟨_, List.getElem?_eq_getElem (by omega)⟩
    have hyr : (p'.l.map ItV.cells)[i + 1]? = some y.cells := by rw [List.getElem?_map, hy]; rfl
    have hyi : p'.pg.items[i + 1]? = some y.it := by show (p'.l.map ItV.it)[_]? = _; rw [List.getElem?_map, hy]; rfl
    have hyo : ∀ R, y.Ok (pgO p' :: R) := fun R => (hpo R).its.it y (List.mem_of_getElem? hy)
    obtain ⟨ya, yc, hyk⟩ := (((hyo _).k.of sF).at hw).form
    refine x_draw [0, 1, 2, 3, 4, 5, 6, 7, 8, 9, 10] mixed (by kernel_rfl) ?_
    replace hw := hw.drawn (w.drawn + 1)
    refine z1 ?_
    refine x_ld rfl rfl trivial rfl (Loads.blk1 (v := .slice (some ⟨ib, io, none⟩) p'.l.length ic) one_sl_api_Item hw pK (by rw [← hs]; rfl)) ?_
    refine z2 ?_
    refine x_idx rfl rfl trivial U_sl_api_Item sz_api_Item rfl rfl ⟨by omega, by omega⟩ ?_
    refine x_fldk rfl rfl trivial fo_api_Item_0 rfl ?_
    refine x_ld rfl rfl trivial rfl (Loads.one (v := .slice ya y.it.key.length yc) one_sl_uint8 (by rw [← hyk]; exact (((hil _).of sF).at hw).cell (j := 0) hyr rfl)) ?_
    refine z1 ?_
    refine x_st1P (l' := [.slice xa x.it.key.length xc, .slice none 0 0, .bool false]) rfl trivial rfl rfl one_bool rfl hw pK rfl rfl (fun w hw q' hq => ?_) (fun w hw => ?_)
    ·
     have hq := pend_mem (l := [6, 1]) (by kernel_rfl) hq
     simp only [List.mem_cons, List.not_mem_nil, or_false] at hq
     rcases hq with rfl | rfl
     ·exact chk_ld rfl rfl rfl (Loads.one (v := .slice ya y.it.key.length yc) one_sl_uint8 (by rw [← hyk]; exact (((hil _).of sF).at hw).cell (j := 0) hyr rfl))
     exact chk_ld rfl rfl rfl (Loads.blk1 (v := .slice (some ⟨ib, io, none⟩) p'.l.length ic) one_sl_api_Item hw pK (by rw [← hs]; rfl))
    refine z1 ?_
    refine x_st1 (l' := [.slice xa x.it.key.length xc, .slice ya y.it.key.length yc, .bool false]) rfl trivial rfl rfl one_sl_uint8 rfl hw pK rfl rfl (by kernel_rfl) (fun w hw => ?_)
    refine xl_nil ?_
    have hz := hw.b [blk b16 _ _, blk b14 _ _, pgO p', blk b11 _ _, blk b9 _ _]
    exact ⟨[(0, _), (2, _), (9, _), (11, _), (14, _), (16, _), (52, _), (53, _), (54, _)], sB, ⟨⟨x.it.key, y.it.key, false⟩, .slice xa x.it.key.length xc, .slice ya y.it.key.length yc⟩, rfl, ⟨(ownR_more hxi hyi).symm, fun R => ⟨by rw [← hxk]; exact (hxo R).k, by rw [← hyk]; exact (hyo R).k, (hxo R).sk, (hyo R).sk⟩⟩, hz⟩
   refine x_skip ?_
   have hz := hw.b [blk b16 _ _, blk b14 _ _, pgO p', blk b11 _ _, blk b9 _ _]
   exact ⟨[(0, _), (2, _), (9, _), (11, _), (14, _), (16, _), (52, _), (53, _), (54, _)], sB, ⟨⟨x.it.key, [], true⟩, .slice xa x.it.key.length xc, .slice none 0 0⟩, rfl, ⟨(ownR_last hxi (by omega)).symm, fun R => ⟨by rw [← hxk]; exact (hxo R).k, nilB, (hxo R).sk, small_nil⟩⟩, hz⟩
  clear hw
  rintro e w ⟨ow, rfl, ⟨how, hoo⟩, hw⟩
  refine x_draw [0, 1, 2, 3, 4, 5, 6, 7, 8, 9] mixed (by kernel_rfl) ?_
  replace hw := hw.drawn (w.drawn + 1)
  refine z2 ?_
  refine lD (v := .int .i64 x.it.child) one_int hw ?_
  refine z2 ?_
  have hcast : ((j + 1 : Nat) : Int) - 1 = j := by omega
  rw [hcast]
  refine lA (l := r.cells) many_api_Range hw ?_
  refine lA (l := ow.cells) many_api_Range hw ?_
  refine x_callP rfl rfl trivial cal_span_Meet rfl (ct_span_Meet (a := r) (b := ow) hw (hr.of sF) ((hoo _).of sF)) (fun w v90 hv q' hq => ?_) (fun w v90 hv => ?_)
  ·
   obtain ⟨r', rfl, hr', hr1, hw⟩ := hv
   have hq := pend_mem (l := [2]) (by kernel_rfl) hq
   simp only [List.mem_cons, List.not_mem_nil, or_false] at hq
   subst hq
   exact chk_ld rfl rfl rfl (Loads.blk1 (v := .int .i64 x.it.child) one_int hw pK rfl)
  obtain ⟨r', rfl, hr', hr1, hw⟩ := hv
  have hsm := meet_small hr.sl hr.sh (hoo []).sl (hoo []).sh
  rw [← hr'] at hsm
  simp only [rgParts, List.cons_append, List.nil_append] at hw
  have hz := hw.b [blk cq _ _, mapI _ _, vaA vq V, row 5 1 r'.lv _ _, row 5 1 r'.hv _ _]
  refine x_call rfl rfl trivial cal_walk_checker_page rfl (@ih j rfl G _ _ cq vq mq V kv' met' keys' x.it.child 4 r' hok hz hml (hki.mono (Nat.zero_le _)) (rgParts_ok hsm.1 hsm.2 pK pK)) (by kernel_rfl) (fun w v91 hv => ?_)
  obtain ⟨kv3, rfl, hml3, hw⟩ := hv
  rw [hr', how] at hml3 hw
  rw [hr', how]
  have hst : stepC V.rd (j + 1) p'.pg r.rg i x.it (met', keys') = pageC V.rd j x.it.child 4 (meetR r.rg (ownR p'.pg i)) (met', keys') := rfl
  rw [hst] at hfo
  have hki3 : Ks V.rd (8 - (i + 1)) (pageC V.rd j x.it.child 4 (meetR r.rg (ownR p'.pg i)) (met', keys')).2 := Ks.page (fun n p hnp => (check_items (Va.rdok hok n p hnp)).1) (hki.mono (by omega))
  obtain ⟨res, hres⟩ : ∃ res, res = pageC V.rd j x.it.child 4 (meetR r.rg (ownR p'.pg i)) (met', keys') := ⟨_, rfl⟩
  rw [← hres] at hfo hml3 hw hki3
  rw [← hres]
  refine z7 ?_
  refine x_if rfl (fun h10 => ?_) (fun h10 => ?_)
  ·
   refine z6 ?_
   exact end1 rfl rfl rfl (by
 rw [if_pos h10] at hfo
 rw [hfo]
 exact ⟨kv3, rfl, hml3, (hw.b [row 5 1 r'.lv _ _, row 5 1 r'.hv _ _, blk b16 _ _, blk b14 _ _, pgO p', blk b11 _ _, blk b9 _ _]).tail.tail.tail.tail.tail.tail.tail⟩)
  refine z5 ?_
  rw [if_neg h10] at hfo
  exact ⟨p'.l.length - (i + 1), by omega, [(0, _), (2, _), (9, _), (11, _), (52, _), (53, _), (54, .int .i64 (i + 1 : Nat))], sB, i + 1, res.2.1, res.2.2, kv3, by omega, rfl, rfl, ⟨hml3, hki3, hfo⟩, (hw.b [row 5 1 r'.lv _ _, row 5 1 r'.hv _ _, blk b16 _ _, blk b14 _ _, pgO p', blk b11 _ _, blk b9 _ _]).tail.tail.tail.tail⟩
 refine z6 ?_
 exact end1 rfl rfl rfl (by
 rw [List.drop_eq_nil_of_le (by omega), foldC] at hfo
 rw [hfo]
 exact ⟨kv', rfl, hml, (hw.b [pgO p', blk b11 _ _, blk b9 _ _]).tail.tail.tail⟩)
theorem ct_walk_checker_page (k : Nat) (hk : k ≤ 1000) : CkPageP k := by
 induction k with
 | zero =>
  intro G L w cq vq mq V kv met keys n least r hok hw hm hks hr
  exact ct_pageP_s hk (fun j h => absurd h (by omega)) hok hw hm hks hr
 | succ k ih =>
  intro G L w cq vq mq V kv met keys n least r hok hw hm hks hr
  have h0 : ∀ j, k + 1 = j + 1 → CkPageP j := by
   intro j h
   have : j = k := by omega
   rw [this]
   exact @ih (by omega)
  exact ct_pageP_s hk h0 hok hw hm hks hr
end
def EvK (w : World) : Prop := Rd w ⟨0, 0, none⟩ [.slice none 0 0, .slice none 0 0, .bool true]
theorem page_least {rd : Int → Option Pg} (hr : RdOk rd) {n : Int} {r : Rg} {s : List Int × Int} : pageC rd 0 n 1 r s = pageC rd 0 n 0 r s := by
 cases he : enterC rd s.1 n with
 | none => rw [pageC_none he, pageC_none he]
 | some p =>
  rw [pageC_some he, pageC_some he]
  by_cases hw : wrongC 0 p
  ·rw [if_pos hw, if_pos hw]
  rw [if_neg hw, if_neg hw]
  have hk : p.kind = 1 := by unfold wrongC at hw; rw [if_pos rfl] at hw; exact Decidable.not_not.1 hw
  have := (check_items (hr n p (enterC_some he).2)).2.2.1 hk
  rw [if_neg (by omega), if_neg (by omega)]
section
variable {G : Gh} {L R : List Assn} {w : World}
theorem ct_walk_Check {vq : Nat} {V : Va} {t : Tr} (hok : V.Ok) (hw : Sat G (vaA vq V :: L) w) (kev : Knows L EvK) :
  Calls Tryz.prog 24 #[.pointer (some ⟨vq, 0, none⟩), .agg (treeC t).toArray] w (Ret fun u w' => u = .int .i64 (chkT V.rd t) ∧ Sat G (vaA vq V :: L) w') := by
 refine calls_of_x (args := [_, _]) Tryz.func24 rfl Tryz.ntmps24 rfl rfl ?_
 refine z2 ?_
 refine x_box rfl rfl trivial rfl rfl hw rfl (fun w b3 hw => ?_)
 refine z5 ?_
 refine lA (l := treeC t) many_api_Tree hw ?_
 refine x_build (v := .agg (treeC trZ).toArray) rfl rfl trivial rfl (fun w => by kernel_rfl) ?_
 refine x_bin (v := .bool (decide (treeNone t))) rfl rfl trivial (by kernel_rfl) rfl rfl (fun w' => by
  rw [Sem.run_bind, run_eqGuard_agg w' _ _ _ _ _ _ (by kernel_rfl), Result.andThen_ok, run_eql_struct, run_eq_tree 9998]
  rfl) ?_
 refine xl_nil ?_
 refine x_if rfl (fun h1 => ?_) (fun h1 => ?_)
 ·
  refine z5 ?_
  exact end1 rfl rfl rfl (by
 have e : chkT V.rd t = 0 := by unfold chkT; rw [if_pos h1]
 rw [e]
 exact ⟨rfl, hw.tail⟩)
 refine z5 ?_
 refine lD (v := .int .i64 t.root) one_int hw ?_
 refine z2 ?_
 refine xl_and (l1 := [4, 5, 6, 7]) (l2 := [8, 9, 10, 11, 12, 13, 14, 15, 16, 17]) rfl (d := 17) (t.root = 0 ∨ t.height < 1) rfl ?_ ?_
 ·
  refine xl_split (d := 13) rfl (fun h2 => ?_) (fun h2 => ?_)
  ·
   refine z5 ?_
   refine cQ ?_
   exact dC
  refine z1 ?_
  refine lD (v := .int .i64 t.height) one_int hw ?_
  refine z3 ?_
  refine cQ ?_
  exact dC
 refine z1 ?_
 refine xl_and (l1 := [9, 10, 11, 12]) (l2 := [13, 14, 15, 16, 17]) rfl (d := 22) (t.root = 0 ∨ t.height < 1 ∨ 12 < t.height) rfl ?_ ?_
 ·
  refine xl_split (d := 18) rfl (fun h3 => ?_) (fun h3 => ?_)
  ·
   refine z5 ?_
   refine cQ ?_
   exact dC
  refine z1 ?_
  refine lD (v := .int .i64 t.height) one_int hw ?_
  refine z3 ?_
  refine cQ ?_
  exact dC
 refine z1 ?_
 refine xl_and (l1 := [14, 15, 16, 17]) (l2 := []) rfl (d := 27) (t.root = 0 ∨ t.height < 1 ∨ 12 < t.height ∨ t.items < 1) rfl ?_ ?_
 ·
  refine xl_split (d := 23) rfl (fun h4 => ?_) (fun h4 => ?_)
  ·
   refine z5 ?_
   refine cQ ?_
   exact dC
  refine z1 ?_
  refine lD (v := .int .i64 t.items) one_int hw ?_
  refine z3 ?_
  refine cQ ?_
  exact dC
 refine xl_nil ?_
 refine x_if rfl (fun h5 => ?_) (fun h5 => ?_)
 ·
  refine z5 ?_
  exact end1 rfl rfl rfl (by
 have e : chkT V.rd t = 5 := by unfold chkT; rw [if_neg h1, if_pos (fun h => by unfold treeForm at h; omega)]
 rw [e]
 exact ⟨rfl, hw.tail⟩)
 have htf : treeForm t := by unfold treeForm; omega
 have e : chkT V.rd t = if (pageC V.rd (t.height - 1).toNat t.root (lsD 1 (t.height - 1).toNat) rgAll ([], 0)).1 ≠ 0 then (pageC V.rd (t.height - 1).toNat t.root (lsD 1 (t.height - 1).toNat) rgAll ([], 0)).1 else if ¬ (pageC V.rd (t.height - 1).toNat t.root (lsD 1 (t.height - 1).toNat) rgAll ([], 0)).2.2 = t.items then 4 else 0 := by
  unfold chkT; rw [if_neg h1, if_neg (not_not_intro htf)]
 refine z4 ?_
 refine x_mkm rfl rfl trivial hw rfl (fun w m29 hw => ?_)
 refine x_build (v := .agg #[.pointer (some ⟨vq, 0, none⟩), .map (some m29), .int .i64 0]) rfl rfl trivial rfl (fun w => by kernel_rfl) ?_
 refine x_box rfl rfl trivial rfl rfl hw rfl (fun w b31 hw => ?_)
 refine z7 ?_
 refine lD (v := .int .i64 t.root) one_int hw ?_
 refine z1 ?_
 refine lD (v := .int .i64 t.height) one_int hw ?_
 refine z2 ?_
 refine lD (v := .int .i64 t.height) one_int hw ?_
 refine x_min2 rfl rfl trivial rfl rfl ?_
 refine x_ld rfl rfl trivial rfl (Loads.many (cs := [.slice none 0 0, .slice none 0 0, .bool true]) many_api_Range rfl ((kev.of sF).at hw)) ?_
 obtain ⟨k, hk⟩ : ∃ k : Nat, t.height - 1 = (k : Int) := ⟨(t.height - 1).toNat, by omega⟩
 have hkt : (t.height - 1).toNat = k := by omega
 rw [hkt] at e
 rw [hk]
 have hls : pageC V.rd k t.root (lsD 1 k) rgAll ([], 0) = pageC V.rd k t.root (min t.height 2) rgAll ([], 0) := by
  unfold lsD
  rw [if_pos rfl]
  by_cases hk0 : k = 0
  ·subst hk0
   rw [if_pos rfl, show min t.height 2 = 1 by omega]
   exact (page_least (Va.rdok hok)).symm
  rw [if_neg hk0, show min t.height 2 = 2 by omega]
 rw [hls] at e
 have hz := hw.b [blk b31 _ _, mapI _ _, vaA vq V]
 refine x_call rfl rfl trivial cal_walk_checker_page rfl (@ct_walk_checker_page k (by omega) G _ _ b31 vq m29 V [] [] 0 t.root (min t.height 2) ⟨rgAll, .slice none 0 0, .slice none 0 0⟩ hok hz MetK.nil ⟨by decide, by decide, List.nodup_nil, (fun n hn => by cases hn)⟩ ⟨nilB, nilB, small_nil, small_nil⟩) rfl (fun w v42 hv => ?_)
 obtain ⟨kv', rfl, hm', hw⟩ := hv
 obtain ⟨res, hres⟩ : ∃ res, res = pageC V.rd k t.root (min t.height 2) rgAll ([], 0) := ⟨_, rfl⟩
 have hw : Sat G (blk b31 [.pointer (some ⟨vq, 0, none⟩), .map (some m29), .int .i64 res.2.2] 129 :: mapI m29 kv' :: vaA vq V :: blk b3 (treeC t) 62 :: L) w := by rw [hres]; exact hw
 rw [← hres] at e
 rw [show pageC V.rd k t.root (min t.height 2) (RgV.rg ⟨rgAll, .slice none 0 0, .slice none 0 0⟩) ([], 0) = res from hres.symm]
 refine z7 ?_
 refine x_if rfl (fun h6 => ?_) (fun h6 => ?_)
 ·
  refine z6 ?_
  exact end1 rfl rfl rfl (by
 rw [if_pos h6] at e
 rw [e]
 exact ⟨rfl, (hw.b [blk b31 _ _, mapI _ _, blk b3 _ _]).tail.tail.tail⟩)
 rw [if_neg h6] at e
 refine z3 ?_
 refine x_draw [0, 1, 2, 3, 4, 5, 6] mixed (by kernel_rfl) ?_
 replace hw := hw.drawn (w.drawn + 1)
 refine z3 ?_
 refine lD (v := .int .i64 res.2.2) one_int hw ?_
 refine z1 ?_
 refine lD (v := .int .i64 t.items) one_int hw ?_
 refine z2 ?_
 refine x_if rfl (fun h7 => ?_) (fun h7 => ?_)
 ·
  refine z5 ?_
  exact end1 rfl rfl rfl (by
 rw [if_pos h7] at e
 rw [e]
 exact ⟨rfl, (hw.b [blk b31 _ _, mapI _ _, blk b3 _ _]).tail.tail.tail⟩)
 refine z6 ?_
 exact end1 rfl rfl rfl (by
 rw [if_neg h7] at e
 rw [e]
 exact ⟨rfl, (hw.b [blk b31 _ _, mapI _ _, blk b3 _ _]).tail.tail.tail⟩)
end
def fromK (k : Bys) : Bys := if isKeyP k then k else k ++ [0]
section
variable {G : Gh} {L R : List Assn} {w : World}
theorem ct_span_Next {v : Value} {k : Bys} (hw : Sat G L w) (kl : Knows L (SlB v k)) (hk : k.length < 24) : Calls Tryz.prog 195 #[v] w (Ret fun r w' => Sat G (row 5 1 r (k ++ [0]).length (bys (k ++ [0])) :: L) w') := by
 obtain ⟨a, cap, rfl⟩ := (kl.at hw).form
 refine calls_of_x (args := [_]) Tryz.func195 rfl Tryz.ntmps195 rfl rfl ?_
 refine z11 ?_
 refine x_if rfl (fun h1 => ?_) (fun h1 => ?_)
 ·
  refine z3 ?_
  refine x_call rfl rfl trivial cal_span_fresh rfl (ct_span_fresh (m := 1) hw (kl.of sF) (by unfold Small; omega) (by omega)) rfl (fun w v7 hv => ?_)
  have hw : Sat G (row 5 1 v7 k.length (bys k) :: _) _ := hv
  refine x_bs1 (cs := [.int .u8 0]) rfl rfl trivial U_sl_uint8 sz_uint8 zs_uint8 (by decide) rfl rfl rfl hw rfl (fun w b8 hw => ?_)
  refine x_app (m := k.length) (k := 1) (news := [.int .u8 0]) rfl rfl trivial U_sl_uint8 sz_uint8 by_uint8 zs_uint8 rfl rfl hw pK (Rd.blk0 hw pK) rfl (by intro u hu; simp at hu; subst hu; rfl) (by simp only [maxLen]; omega) (by omega) rfl (fun w v9 hw => ?_)
  refine z3 ?_
  exact end1 rfl rfl rfl (by
 have hz := (hw.b [blk b8 _ _, row 5 1 v9 _ _]).tail
 rw [bys_append, List.length_append]; exact hz)
 exact absurd hk (by omega)
theorem ct_span_from {v : Value} {k : Bys} (hw : Sat G L w) (kl : Knows L (SlB v k)) (hk : k.length ≤ 24) : Calls Tryz.prog 189 #[v] w (Ret fun r w' => Sat G (row 5 1 r (fromK k).length (bys (fromK k)) :: L) w') := by
 refine calls_of_x (args := [_]) Tryz.func189 rfl Tryz.ntmps189 rfl rfl ?_
 refine z8 ?_
 refine x_call rfl rfl trivial cal_span_isKey rfl (ct_span_isKey hw kl) rfl (fun w v4 hv => ?_)
 obtain ⟨rfl, hw⟩ := hv
 refine xl_nil ?_
 refine x_if rfl (fun h1 => ?_) (fun h1 => ?_)
 ·
  refine z3 ?_
  refine x_call rfl rfl trivial cal_span_fresh rfl (ct_span_fresh (m := 0) hw (kl.of sF) (by unfold Small; omega) (by omega)) rfl (fun w v6 hv => ?_)
  have hw : Sat G (row 5 1 v6 k.length (bys k) :: _) _ := hv
  refine z3 ?_
  exact end1 rfl rfl rfl (by
 have e : fromK k = k := by unfold fromK; rw [if_pos h1]
 rw [e]; exact hw)
 refine z4 ?_
 refine x_call rfl rfl trivial cal_span_Next rfl (ct_span_Next hw (kl.of sF) (by unfold isKeyP at h1; omega)) rfl (fun w v8 hv => ?_)
 have hw : Sat G (row 5 1 v8 (k ++ [0]).length (bys (k ++ [0])) :: _) _ := hv
 refine z3 ?_
 exact end1 rfl rfl rfl (by
 have e : fromK k = k ++ [0] := by unfold fromK; rw [if_neg h1]
 rw [e]; exact hw)
theorem ct_span_Empty {r : RgV} (hw : Sat G L w) (hr : r.Ok L) (hk : r.rg.lo.length ≤ 24) : Calls Tryz.prog 170 #[.agg r.cells.toArray] w (Ret fun u w' => u = .bool (decide (¬ hasR r.rg (fromK r.rg.lo))) ∧ Sat G L w') := by
 refine calls_of_x (args := [_]) Tryz.func170 rfl Tryz.ntmps170 rfl rfl ?_
 refine z2 ?_
 refine x_box rfl rfl trivial rfl rfl hw rfl (fun w b1 hw => ?_)
 refine z3 ?_
 refine x_draw [0, 1, 2, 3, 4, 5, 6] mixed (by kernel_rfl) ?_
 replace hw := hw.drawn (w.drawn + 1)
 refine lA (l := r.cells) many_api_Range hw ?_
 refine z1 ?_
 refine lD (v := r.lv) one_sl_uint8 hw ?_
 refine x_callP rfl rfl trivial cal_span_from rfl (ct_span_from hw (hr.lo.of sF) hk) (fun w v6 hv q' hq => ?_) (fun w v6 hv => ?_)
 ·
  have hw : Sat G (row 5 1 v6 (fromK r.rg.lo).length (bys (fromK r.rg.lo)) :: _) _ := hv
  have hq := pend_mem (l := [0]) (by kernel_rfl) hq
  simp only [List.mem_cons, List.not_mem_nil, or_false] at hq
  subst hq
  exact chk_ld rfl rfl rfl (Loads.blkA (l := r.cells) many_api_Range hw pK rfl)
 have hw : Sat G (row 5 1 v6 (fromK r.rg.lo).length (bys (fromK r.rg.lo)) :: _) _ := hv
 refine x_call rfl rfl trivial cal_span_Has rfl (ct_span_Has (r := r) (k := fromK r.rg.lo) hw (hr.of sF) (rowB rfl pK)) (by kernel_rfl) (fun w v7 hv => ?_)
 obtain ⟨rfl, hw⟩ := hv
 refine x_notp rfl rfl trivial rfl ?_
 refine z3 ?_
 exact end1 rfl rfl rfl ⟨rfl, hw.tail.tail⟩
end
def IPre (F : List Assn → Prop) (l : List ItV) (k : Nat) (args : List Value) (M : List Assn) : Prop := ∃ x, l[l.length - 1 - k]? = some x ∧ args = [.int .i64 ((l.length : Int) - 1 - k), .agg x.cells.toArray] ∧ F M
section
variable {G : Gh} {L R : List Assn} {w : World}
theorem ct_slices_Backward_api_Item_api_Item {a : Option Addr} {n c : Nat} (hw : Sat G L w) : Calls Tryz.prog 169 #[.slice a n c] w (Ret fun r w' => ∃ b1, r = .func (.func 188) #[] #[.pointer (some ⟨b1, 0, none⟩)] ∧ Sat G (blk b1 [.slice a n c] 73 :: L) w') := by
 refine calls_of_x (args := [_]) Tryz.func169 rfl Tryz.ntmps169 rfl rfl ?_
 refine z2 ?_
 refine x_box rfl rfl trivial rfl rfl hw rfl (fun w b1 hw => ?_)
 refine z4 ?_
 refine x_mkf (v1 := #[]) (v2 := #[.pointer (some ⟨b1, 0, none⟩)]) rfl rfl trivial (by intro z hz; simp at hz; subst hz; exact ⟨_, rfl⟩) (by simp) (by simp only [List.map_toArray, List.map_cons, List.map_nil]; rfl) ?_
 refine z3 ?_
 exact end1 rfl rfl rfl ⟨b1, rfl, hw⟩
theorem it_Backward_Item {F : List Assn → Prop} {l : List ItV} {v : Value} {b1 : Nat} (kl : Knows L (SlT 4 v (l.map ItV.cells))) (hll : l.length ≤ 10000000000000) (hF : F (blk b1 [v] 73 :: L)) : Iter Tryz.prog 188 [.pointer (some ⟨b1, 0, none⟩)] G (blk b1 [v] 73 :: L) w l.length (IPre F l) (blk b1 [v] 73 :: L) := by
 intro lq J Jx w hy hw
 obtain ⟨sa, sc, h1, -, -⟩ := ((kl.of sF).at hw).form
 rw [List.length_map] at h1
 subst h1
 refine calls_of_x (args := [_, _]) Tryz.func188 rfl Tryz.ntmps188 rfl rfl ?_
 refine z2 ?_
 refine lD one_sl_api_Item hw ?_
 refine z2 ?_
 have e0 : (l.length : Int) - 1 = (l.length : Int) - 1 - (0 : Nat) := by simp
 rw [e0]
 refine z3 ?_
 refine x_loop (fun m e w => ∃ k : Nat, k ≤ l.length ∧ m = l.length - k ∧ e = [(0, .func (.yield lq) #[] #[]), (1, .pointer (some ⟨b1, 0, none⟩)), (3, .int .i64 ((l.length : Int) - 1 - k))] ∧ Sat G (J k :: blk b1 [.slice sa l.length sc] 73 :: L) w)
  (m := l.length) (e₀ := [(0, .func (.yield lq) #[] #[]), (1, .pointer (some ⟨b1, 0, none⟩)), (3, .int .i64 ((l.length : Int) - 1 - (0 : Nat)))]) sB
  ⟨0, Nat.zero_le _, rfl, rfl, hw⟩ ?_
 rintro m e w ⟨k, hk, rfl, rfl, hw⟩
 refine z6 ?_
 refine x_if rfl (fun h1 => ?_) (fun h1 => ?_)
 ·
  have hk' : k < l.length := by omega
  obtain ⟨x, hx⟩ : ∃ x, l[l.length - 1 - k]? = some x := ⟨_, List.getElem?_eq_getElem (by omega)⟩
  have hxr : (l.map ItV.cells)[l.length - 1 - k]? = some x.cells := by rw [List.getElem?_map, hx]; rfl
  obtain ⟨bb, oo, rfl⟩ := ((kl.of sF).at hw).nn (by rw [List.length_map]; omega)
  have hi : ((l.length : Int) - 1 - k).toNat = l.length - 1 - k := by omega
  refine z7 ?_
  refine lD one_sl_api_Item hw ?_
  refine z1 ?_
  refine x_idx rfl rfl trivial U_sl_api_Item sz_api_Item rfl rfl ⟨by omega, by omega⟩ ?_
  refine x_ld rfl rfl trivial rfl (Loads.many many_api_Item rfl (by rw [hi]; exact ((kl.of sF).at hw).at hxr)) ?_
  refine x_yield rfl rfl trivial rfl rfl (hy k _ _ w hk' ⟨x, hx, rfl, hF⟩ hw) rfl (fun w v17 hv => ?_)
  obtain ⟨bq, rfl, hb1, hb2⟩ := yield_or hv
  refine x_not rfl rfl trivial rfl ?_
  refine xl_nil ?_
  refine x_cond rfl (fun h2 => ?_) (fun h2 => ?_)
  ·
   refine x_ret ?_
   exact end0 rfl rfl (.inr (hb2 (by simpa using h2)))
  refine z6 ?_
  have hw := hb1 (by simpa using h2)
  refine ⟨l.length - (k + 1), by omega, [(0, _), (1, _), (3, .int .i64 ((l.length : Int) - 1 - (k + 1 : Nat)))], ?_, k + 1, by omega, rfl, rfl, hw⟩
  rw [show ((l.length : Int) - 1 - (k + 1 : Nat)) = (l.length : Int) - 1 - k - 1 by omega]
  exact sB
 refine z1 ?_
 exact end0 rfl rfl (.inl (by
 have hke : k = l.length := by omega
 subst hke; exact hw))
end
def childIn (p : Pg) (r : Rg) (i : Nat) : Prop := hasR (meetR (ownR p i) r) (fromK (meetR (ownR p i) r).lo)
instance (p : Pg) (r : Rg) (i : Nat) : Decidable (childIn p r i) := by unfold childIn; infer_instance
def withinK (p : Pg) (r : Rg) (k : Nat) : List Int := ((((List.range p.items.length).reverse).take k).filter fun i => decide (childIn p r i)).map fun i => childAt p.items i
theorem withinK_step {p : Pg} {r : Rg} {k : Nat} (hk : k < p.items.length) : withinK p r (k + 1) = withinK p r k ++ (if childIn p r (p.items.length - 1 - k) then [childAt p.items (p.items.length - 1 - k)] else []) := by
 unfold withinK
 have h : (List.range p.items.length).reverse[k]? = some (p.items.length - 1 - k) := by
  rw [List.getElem?_reverse (by simpa using hk), List.length_range, List.getElem?_range (by omega)]
 rw [take_step h, List.filter_append, List.map_append]
 by_cases hc : childIn p r (p.items.length - 1 - k) <;> simp [hc]
theorem withinK_len (p : Pg) (r : Rg) (k : Nat) : (withinK p r k).length ≤ k := by
 unfold withinK
 rw [List.length_map]
 have h1 := List.length_filter_le (fun i => decide (childIn p r i)) ((List.range p.items.length).reverse.take k)
 have h2 := List.length_take_le k (List.range p.items.length).reverse
 omega
abbrev wiJ (b5 b3 b2 : Nat) (r : RgV) (p : PgV) (A : List Int) : Assn := ex fun ov : Value => both [blk b5 [ov] 22, row 3 1 ov A.length (ints A), blk b3 r.cells 64, blk b2 p.cells 75]
section
variable {G : Gh} {L R : List Assn} {w : World}
theorem ct_walk_within {p : PgV} {r : RgV} (hw : Sat G L w) (hp : p.Ok L) (hr : r.Ok L) (hp8 : p.l.length ≤ 8) (hk24 : ∀ i, (meetR (ownR p.pg i) r.rg).lo.length ≤ 24) : Calls Tryz.prog 138 #[.agg p.cells.toArray, .agg r.cells.toArray] w (Ret fun u w' => Sat G (row 3 1 u (withinK p.pg r.rg p.l.length).length (ints (withinK p.pg r.rg p.l.length)) :: L) w') := by
 obtain ⟨ia, ic, hs, -, -⟩ := (hp.its.sl.at hw).form
 rw [List.length_map] at hs
 have hsl : Knows L (SlT 4 (.slice ia p.l.length ic) (p.l.map ItV.cells)) := by rw [← hs]; exact hp.its.sl
 have hpl : p.pg.items.length = p.l.length := by simp [PgV.pg]
 refine calls_of_x (args := [_, _]) Tryz.func138 rfl Tryz.ntmps138 rfl rfl ?_
 refine z2 ?_
 refine x_box rfl rfl trivial rfl rfl hw rfl (fun w b2 hw => ?_)
 refine x_box rfl rfl trivial rfl rfl hw rfl (fun w b3 hw => ?_)
 refine z4 ?_
 refine x_alloc rfl rfl trivial z_sl_int hw rfl (fun w b5 hw => ?_)
 refine z5 ?_
 refine x_ld rfl rfl trivial rfl (Loads.blk1 (v := .slice ia p.l.length ic) one_sl_api_Item hw pK (by rw [← hs]; rfl)) ?_
 refine x_call rfl rfl trivial cal_slices_Backward_api_Item_api_Item rfl (ct_slices_Backward_api_Item_api_Item hw) rfl (fun w v11 hv => ?_)
 obtain ⟨b1, rfl, hw⟩ := hv
 refine z2 ?_
 have hw := row_nil hw 3 1
 have hz := hw.b [blk b5 _ _, row 3 1 (.slice none 0 0) _ _, blk b3 _ _, blk b2 _ _, blk b1 _ _]
 clear hw
 have hw : Sat G (wiJ b5 b3 b2 r p (withinK p.pg r.rg 0) :: blk b1 [.slice ia p.l.length ic] 73 :: L) w := Sat.ex_in (.slice none 0 0) (Sat.both_in hz)
 refine x_range (e₀ := [(2, .pointer (some ⟨b2, 0, none⟩)), (3, .pointer (some ⟨b3, 0, none⟩)), (5, .pointer (some ⟨b5, 0, none⟩))]) (fun k => wiJ b5 b3 b2 r p (withinK p.pg r.rg k)) (fun _ => False) [] rfl cal_slices_Backward_api_Item_api_Item_1 rfl sG rfl hw (fun k args M h => by obtain ⟨x, _, rfl, _⟩ := h; rfl) (it_Backward_Item (F := fun M => p.Ok M ∧ r.Ok M) (l := p.l) (hsl.of sF) (by omega) ⟨hp.of sF, hr.of sF⟩) ?_ ?_ ?_ ?_
 ·
  clear hw
  intro l D1 o k args M w hk hpre hw
  obtain ⟨x, hx, rfl, hp, hr⟩ := hpre
  have hsl : Knows _ (SlT 4 (.slice ia p.l.length ic) (p.l.map ItV.cells)) := hs ▸ hp.its.sl
  obtain ⟨ov, hw⟩ := hw.ex_out
  have hw := hw.both_out
  simp only [List.cons_append, List.nil_append] at hw
  obtain ⟨j, hj⟩ : ∃ j, j = p.l.length - 1 - k := ⟨_, rfl⟩
  have hjc : (p.l.length : Int) - 1 - k = (j : Int) := by omega
  rw [← hj] at hx
  rw [hjc]
  have hxr : (p.l.map ItV.cells)[j]? = some x.cells := by rw [List.getElem?_map, hx]; rfl
  have hxi : p.pg.items[j]? = some x.it := by show (p.l.map ItV.it)[_]? = _; rw [List.getElem?_map, hx]; rfl
  have hxo := hp.its.it x (List.mem_of_getElem? hx)
  obtain ⟨xa, xc, hxk⟩ := ((hxo.k.of sF).at hw).form
  obtain ⟨xa2, xc2, hxv⟩ := ((hxo.v.of sF).at hw).form
  obtain ⟨ib, io, hia⟩ := ((hsl.of sF).at hw).nn (by rw [List.length_map]; omega)
  have hst := withinK_step (p := p.pg) (r := r.rg) (k := k) (by omega)
  rw [hpl, ← hj] at hst
  have hwl := withinK_len p.pg r.rg k
  rw [hia] at hs hsl
  refine z5 ?_
  refine x_alloc rfl rfl trivial z_api_Item hw rfl (fun w b7 hw => ?_)
  refine x_stN (cs := x.cells) (l' := x.cells) rfl trivial rfl rfl many_api_Item rfl (by intro u hu; simp [ItV.cells, hxk, hxv] at hu; rcases hu with rfl | rfl | rfl | rfl <;> rfl) hw pK (by simp [ItV.cells]) rfl rfl (fun w hw => ?_)
  refine xl_nil ?_
  refine ⟨_, hw.pick (A := pt l o) pK, fun o' w hw => ?_⟩
  refine z4 ?_
  refine x_ld rfl rfl trivial rfl (Loads.blk1 (v := .slice xa x.it.key.length xc) one_sl_uint8 hw pK (by rw [← hxk]; rfl)) ?_
  refine x_build (v := .agg #[.slice xa x.it.key.length xc, .slice none 0 0, .bool true]) rfl rfl trivial rfl (fun w => by kernel_rfl) ?_
  refine x_alloc rfl rfl trivial z_api_Range hw rfl (fun w b8 hw => ?_)
  refine x_stN (cs := [.slice xa x.it.key.length xc, .slice none 0 0, .bool true]) (l' := [.slice xa x.it.key.length xc, .slice none 0 0, .bool true]) rfl trivial rfl rfl many_api_Range rfl (by intro u hu; simp at hu; rcases hu with rfl | rfl | rfl <;> rfl) hw pK (by simp) rfl rfl (fun w hw => ?_)
  refine xl_nil ?_
  refine x_join (fun e w => ∃ ow : RgV, e = [(2, .pointer (some ⟨b2, 0, none⟩)), (3, .pointer (some ⟨b3, 0, none⟩)), (5, .pointer (some ⟨b5, 0, none⟩)), (7, .pointer (some ⟨b7, 0, none⟩)), (8, .pointer (some ⟨b8, 0, none⟩))] ∧ (ow.rg = ownR p.pg j ∧ ow.Ok M) ∧ Sat G (blk b8 ow.cells 64 :: blk b7 x.cells 114 :: blk b5 [ov] 22 :: row 3 1 ov (withinK p.pg r.rg k).length (ints (withinK p.pg r.rg k)) :: blk b3 r.cells 64 :: blk b2 p.cells 75 :: pt l o' :: dblk D1 :: M) w) ?_ ?_
  ·
   refine z5 ?_
   refine x_ld rfl rfl trivial rfl (Loads.blk1 (v := .slice (some ⟨ib, io, none⟩) p.l.length ic) one_sl_api_Item hw pK (by rw [← hs]; rfl)) ?_
   refine z3 ?_
   refine x_if rfl (fun h1 => ?_) (fun h1 => ?_)
   ·
    obtain ⟨y, hy⟩ : ∃ y, p.l[j + 1]? = some y := ⟨_, List.getElem?_eq_getElem (by omega)⟩
    have hyr : (p.l.map ItV.cells)[j + 1]? = some y.cells := by rw [List.getElem?_map, hy]; rfl
    have hyi : p.pg.items[j + 1]? = some y.it := by show (p.l.map ItV.it)[_]? = _; rw [List.getElem?_map, hy]; rfl
    have hyo := hp.its.it y (List.mem_of_getElem? hy)
    obtain ⟨ya, yc, hyk⟩ := ((hyo.k.of sF).at hw).form
    refine x_draw [0, 1, 2, 3, 4, 5, 6, 7, 8, 9, 10] mixed (by kernel_rfl) ?_
    replace hw := hw.drawn (w.drawn + 1)
    refine z1 ?_
    refine x_ld rfl rfl trivial rfl (Loads.blk1 (v := .slice (some ⟨ib, io, none⟩) p.l.length ic) one_sl_api_Item hw pK (by rw [← hs]; rfl)) ?_
    refine z2 ?_
    refine x_idx rfl rfl trivial U_sl_api_Item sz_api_Item rfl rfl ⟨by omega, by omega⟩ ?_
    refine x_fldk rfl rfl trivial fo_api_Item_0 rfl ?_
    refine x_ld rfl rfl trivial rfl (Loads.one (v := .slice ya y.it.key.length yc) one_sl_uint8 (by rw [← hyk]; exact ((hsl.of sF).at hw).cell (j := 0) hyr rfl)) ?_
    refine z1 ?_
    refine x_st1P (l' := [.slice xa x.it.key.length xc, .slice none 0 0, .bool false]) rfl trivial rfl rfl one_bool rfl hw pK rfl rfl (fun w hw q' hq => ?_) (fun w hw => ?_)
    ·
     have hq := pend_mem (l := [6, 1]) (by kernel_rfl) hq
     simp only [List.mem_cons, List.not_mem_nil, or_false] at hq
     rcases hq with rfl | rfl
     ·exact chk_ld rfl rfl rfl (Loads.one (v := .slice ya y.it.key.length yc) one_sl_uint8 (by rw [← hyk]; exact ((hsl.of sF).at hw).cell (j := 0) hyr rfl))
     exact chk_ld rfl rfl rfl (Loads.blk1 (v := .slice (some ⟨ib, io, none⟩) p.l.length ic) one_sl_api_Item hw pK (by rw [← hs]; rfl))
    refine z1 ?_
    refine x_st1 (l' := [.slice xa x.it.key.length xc, .slice ya y.it.key.length yc, .bool false]) rfl trivial rfl rfl one_sl_uint8 rfl hw pK rfl rfl (by kernel_rfl) (fun w hw => ?_)
    refine xl_nil ?_
    have hz := hw.b [blk b8 _ _, blk b7 _ _, blk b5 _ _, row 3 1 ov _ _, blk b3 _ _, blk b2 _ _]
    exact ⟨[(2, _), (3, _), (5, _), (7, _), (8, _)], sB, ⟨⟨x.it.key, y.it.key, false⟩, .slice xa x.it.key.length xc, .slice ya y.it.key.length yc⟩, rfl, ⟨(ownR_more hxi hyi).symm, ⟨by rw [← hxk]; exact hxo.k, by rw [← hyk]; exact hyo.k, hxo.sk, hyo.sk⟩⟩, hz⟩
   refine x_skip ?_
   have hz := hw.b [blk b8 _ _, blk b7 _ _, blk b5 _ _, row 3 1 ov _ _, blk b3 _ _, blk b2 _ _]
   exact ⟨[(2, _), (3, _), (5, _), (7, _), (8, _)], sB, ⟨⟨x.it.key, [], true⟩, .slice xa x.it.key.length xc, .slice none 0 0⟩, rfl, ⟨(ownR_last hxi (by omega)).symm, ⟨by rw [← hxk]; exact hxo.k, nilB, hxo.sk, small_nil⟩⟩, hz⟩
  clear hw
  rintro e w ⟨ow, rfl, ⟨how, hoo⟩, hw⟩
  refine z2 ?_
  refine lA (l := ow.cells) many_api_Range hw ?_
  refine lA (l := r.cells) many_api_Range hw ?_
  refine x_call rfl rfl trivial cal_span_Meet rfl (ct_span_Meet (a := ow) (b := r) hw (hoo.of sF) (hr.of sF)) rfl (fun w v34 hv => ?_)
  obtain ⟨r', rfl, hr', hr1, hw⟩ := hv
  have hsm := meet_small hoo.sl hoo.sh hr.sl hr.sh
  rw [← hr'] at hsm
  simp only [rgParts, List.cons_append, List.nil_append] at hw
  refine x_call rfl rfl trivial cal_span_Empty rfl (ct_span_Empty (r := r') hw (rgParts_ok hsm.1 hsm.2 pK pK) (by rw [hr', how]; exact hk24 j)) rfl (fun w v35 hv => ?_)
  obtain ⟨rfl, hw⟩ := hv
  have hch : hasR r'.rg (fromK r'.rg.lo) ↔ childIn p.pg r.rg j := by unfold childIn; rw [hr', how]
  have hcx : childAt p.pg.items j = x.it.child := routeK_child hx
  obtain ⟨oa, oc, rfl⟩ := row_form (hw.pick (A := row 3 1 ov _ _) pK)
  refine x_notp rfl rfl trivial rfl ?_
  refine xl_nil ?_
  refine x_if rfl (fun h2 => ?_) (fun h2 => ?_)
  ·
   refine z1 ?_
   refine lD (v := .slice oa (withinK p.pg r.rg k).length oc) one_sl_int hw ?_
   refine z1 ?_
   refine lD (v := .int .i64 x.it.child) one_int hw ?_
   refine x_bs1 (cs := [.int .i64 x.it.child]) rfl rfl trivial U_sl_int sz_int zs_int (by decide) rfl rfl rfl hw rfl (fun w b40 hw => ?_)
   refine x_app (m := (withinK p.pg r.rg k).length) (k := 1) (news := [.int .i64 x.it.child]) rfl rfl trivial U_sl_int sz_int by_int zs_int rfl rfl hw pK (Rd.blk0 hw pK) rfl (by intro u hu; simp at hu; subst hu; rfl) (by simp only [maxLen]; omega) (by omega) rfl (fun w v41 hw => ?_)
   obtain ⟨na, nc, rfl⟩ := row_form hw
   refine x_st1 (l' := [.slice na ((withinK p.pg r.rg k).length + 1) nc]) rfl trivial rfl rfl one_sl_int rfl hw pK rfl rfl rfl (fun w hw => ?_)
   refine xl_nil ?_
   have hc : childIn p.pg r.rg j := hch.1 (Decidable.not_not.1 h2)
   rw [if_pos hc, hcx] at hst
   have hz := (hw.b [blk b40 _ _, row 5 1 r'.lv _ _, row 5 1 r'.hv _ _, blk b8 _ _, blk b7 _ _, blk b5 _ _, row 3 1 (.slice na _ nc) _ _, blk b3 _ _, blk b2 _ _]).tail.tail.tail.tail.tail
   refine Sat.ex_in (.slice na ((withinK p.pg r.rg k).length + 1) nc) (Sat.both_in ?_)
   rw [hst, List.length_append, ints_snoc]
   exact hz
  refine x_skip ?_
  have hc : ¬ childIn p.pg r.rg j := fun h => h2 (not_not_intro (hch.2 h))
  rw [if_neg hc, List.append_nil] at hst
  have hz := (hw.b [row 5 1 r'.lv _ _, row 5 1 r'.hv _ _, blk b8 _ _, blk b7 _ _, blk b5 _ _, row 3 1 _ _ _, blk b3 _ _, blk b2 _ _]).tail.tail.tail.tail
  refine Sat.ex_in (.slice oa (withinK p.pg r.rg k).length oc) (Sat.both_in ?_)
  rw [hst]
  exact hz
 ·
  clear hw
  intro D1 w hw
  obtain ⟨ov, hw⟩ := hw.ex_out
  have hw := hw.both_out
  simp only [List.cons_append, List.nil_append] at hw
  refine z2 ?_
  refine lD (v := ov) one_sl_int hw ?_
  refine z3 ?_
  refine bodyEnd_leave rfl ?_
  refine leave_dblk hw pK (fun w hw => ?_)
  exact leave1 rfl rfl (hw.b [blk b5 _ _, blk b3 _ _, blk b2 _ _, blk b1 _ _]).tail.tail.tail.tail
 ·
  clear hw; intro D w hw; exact (assn_out hw).elim fun _ h => h.1.elim
 intro id A hA; cases hA
end
theorem cmpB_anti : ∀ a b : Bys, cmpB a b = - cmpB b a
 | [], [] => rfl
 | [], _ :: _ => rfl
 | _ :: _, [] => rfl
 | a :: x, b :: y => by
  have ih := cmpB_anti x y
  simp only [cmpB]
  by_cases h1 : a.toNat < b.toNat
  ·rw [if_pos h1, if_neg (by omega), if_pos h1]
  by_cases h2 : b.toNat < a.toNat
  ·rw [if_neg h1, if_pos h2, if_pos h2]; rfl
  rw [if_neg h1, if_neg h2, if_neg h2, if_neg h1]; exact ih
theorem cmpB_lt_trans : ∀ {a b c : Bys}, cmpB a b ≤ 0 → cmpB b c < 0 → cmpB a c < 0
 | [], [], _, _, h => h
 | [], _ :: _, [], _, h => by simp [cmpB] at h
 | [], _ :: _, _ :: _, _, _ => by simp [cmpB]
 | _ :: _, [], _, h, _ => by simp [cmpB] at h
 | _ :: _, _ :: _, [], _, h => by simp [cmpB] at h
 | a :: x, b :: y, c :: z, h1, h2 => by
  have ih := cmpB_lt_trans (a := x) (b := y) (c := z)
  simp only [cmpB] at h1 h2 ⊢
  by_cases h3 : a.toNat < b.toNat
  ·by_cases h4 : b.toNat < c.toNat
   ·rw [if_pos (by omega)]; decide
   rw [if_neg h4] at h2
   by_cases h5 : c.toNat < b.toNat
   ·rw [if_pos h5] at h2; omega
   rw [if_pos (by omega)]; decide
  rw [if_neg h3] at h1
  by_cases h6 : b.toNat < a.toNat
  ·rw [if_pos h6] at h1; omega
  rw [if_neg h6] at h1
  by_cases h4 : b.toNat < c.toNat
  ·rw [if_pos (by omega)]; decide
  rw [if_neg h4] at h2
  by_cases h5 : c.toNat < b.toNat
  ·rw [if_pos h5] at h2; omega
  rw [if_neg h5] at h2
  rw [if_neg (by omega), if_neg (by omega)]
  exact ih h1 h2
theorem cmpB_le_trans {a b c : Bys} (h1 : cmpB a b ≤ 0) (h2 : cmpB b c ≤ 0) : cmpB a c ≤ 0 := by
 by_cases h : cmpB b c = 0
 ·rw [cmpB_eq] at h; subst h; exact h1
 have := cmpB_lt_trans h1 (show cmpB b c < 0 by omega); omega
theorem zero_le_key {k : Bys} (h : 1 ≤ k.length) : cmpB [0] k ≤ 0 := by
 cases k with
 | nil => simp at h
 | cons a k =>
  simp only [cmpB]
  have h0 : (0 : UInt8).toNat = 0 := rfl
  rw [h0]
  by_cases h1 : 0 < a.toNat
  ·rw [if_pos h1]; decide
  rw [if_neg h1, if_neg (by omega)]
  cases k <;> simp [cmpB]
theorem hasR_least {m : Rg} {k : Bys} (h : hasR m k) (hl : m.lo.length ≤ 24) : hasR m (fromK m.lo) := by
 obtain ⟨h1, h2, h3⟩ := h
 have h4 : cmpB (fromK m.lo) k ≤ 0 ∧ 0 ≤ cmpB (fromK m.lo) m.lo ∧ isKeyP (fromK m.lo) := by
  unfold fromK
  by_cases hk : isKeyP m.lo
  ·rw [if_pos hk]
   refine ⟨?_, by rw [cmpB_self]; decide, hk⟩
   rw [cmpB_anti]; omega
  rw [if_neg hk]
  have hn : m.lo = [] := by
   unfold isKeyP at hk
   exact List.eq_nil_of_length_eq_zero (by omega)
  rw [hn]
  exact ⟨zero_le_key h1.1, by decide, by unfold isKeyP; decide⟩
 refine ⟨h4.2.2, h4.2.1, ?_⟩
 rcases h3 with h3 | h3
 ·exact .inl h3
 exact .inr (cmpB_lt_trans h4.1 h3)
theorem hasR_meet {a b : Rg} {k : Bys} : hasR (meetR a b) k ↔ hasR a k ∧ hasR b k := by
 have hmax : 0 ≤ cmpB k (maxB a.lo b.lo) ↔ 0 ≤ cmpB k a.lo ∧ 0 ≤ cmpB k b.lo := by
  have e1 := cmpB_anti k a.lo
  have e2 := cmpB_anti k b.lo
  unfold maxB
  by_cases h : cmpB a.lo b.lo < 0
  ·rw [if_pos h]
   constructor
   ·intro h1
    have := cmpB_le_trans (a := a.lo) (b := b.lo) (c := k) (by omega) (by omega)
    omega
   exact fun h1 => h1.2
  rw [if_neg h]
  have e3 := cmpB_anti a.lo b.lo
  constructor
  ·intro h1
   have := cmpB_le_trans (a := b.lo) (b := a.lo) (c := k) (by omega) (by omega)
   omega
  exact fun h1 => h1.1
 have hmin : cmpB k (minB a.hi b.hi) < 0 ↔ cmpB k a.hi < 0 ∧ cmpB k b.hi < 0 := by
  unfold minB
  by_cases h : 0 < cmpB a.hi b.hi
  ·rw [if_pos h]
   have e3 := cmpB_anti a.hi b.hi
   constructor
   ·intro h1
    refine ⟨?_, h1⟩
    exact cmpB_lt_trans (a := k) (b := b.hi) (c := a.hi) (by omega) (by omega)
   exact fun h1 => h1.2
  rw [if_neg h]
  constructor
  ·intro h1
   refine ⟨h1, ?_⟩
   by_cases h0 : cmpB a.hi b.hi = 0
   ·rw [cmpB_eq] at h0; rw [← h0]; exact h1
   exact cmpB_lt_trans (a := k) (b := a.hi) (c := b.hi) (by omega) (by omega)
  exact fun h1 => h1.1
 unfold hasR meetR
 simp only [hmax]
 cases ha : a.opn <;> cases hb : b.opn <;> simp [hmin] <;> (constructor <;> (intro h; simp_all))
theorem childIn_of {p : Pg} {r : Rg} {i : Nat} {k : Bys} (h1 : hasR (ownR p i) k) (h2 : hasR r k) (hl : (meetR (ownR p i) r).lo.length ≤ 24) : childIn p r i := hasR_least (hasR_meet.2 ⟨h1, h2⟩) hl
def itemsT (rd : Int → Option Pg) : Nat → Int → List It
 | 0, n => match rd n with
  | none => []
  | some p => p.items
 | k + 1, n => match rd n with
  | none => []
  | some p => p.items.flatMap fun x => itemsT rd k x.child
theorem flat_items {rd : Int → Option Pg} : ∀ {k : Nat} {n : Int}, flatT rd k n = (itemsT rd k n).map (prT rd)
 | 0, n => by
  rw [flatT, itemsT]
  cases rd n <;> rfl
 | k + 1, n => by
  rw [flatT, itemsT]
  cases rd n with
  | none => rfl
  | some p =>
   simp only
   rw [List.map_flatMap]
   congr 1
   funext x
   exact flat_items
theorem keysIn_items {rd : Int → Option Pg} : ∀ {k : Nat} {n : Int} {r : Rg}, keysIn rd k n r → ∀ y ∈ itemsT rd k n, hasR r y.key
 | 0, n, r, h => by
  obtain ⟨p, hp, h1, h2⟩ := h
  intro y hy
  rw [itemsT, hp] at hy
  exact h2 y hy
 | k + 1, n, r, h => by
  obtain ⟨p, hp, h1, h2⟩ := h
  intro y hy
  rw [itemsT, hp] at hy
  obtain ⟨x, hx, hy⟩ := List.mem_flatMap.1 hy
  obtain ⟨i, hi⟩ := List.getElem?_of_mem hx
  exact (hasR_meet.1 (keysIn_items (h2 i x hi) y hy)).1
def itemsR (rd : Int → Option Pg) (r : Rg) (x : Int × Nat) : List It := (itemsT rd x.2 x.1).filter fun y => decide (hasR r y.key)
def restI (rd : Int → Option Pg) (r : Rg) (st : List (Int × Nat)) : List It := st.reverse.flatMap (itemsR rd r)
theorem restI_app (rd : Int → Option Pg) (r : Rg) (a b : List (Int × Nat)) : restI rd r (a ++ b) = restI rd r b ++ restI rd r a := by unfold restI; rw [List.reverse_append, List.flatMap_append]
def withinS (p : Pg) (r : Rg) (k : Nat) : List (Int × Nat) := ((List.range p.items.length).reverse.filter fun i => decide (childIn p r i)).map fun i => (childAt p.items i, k)
theorem withinS_fst (p : Pg) (r : Rg) (k : Nat) : (withinS p r k).map (·.1) = withinK p r p.items.length := by
 unfold withinS withinK
 rw [List.take_of_length_le (by simp), List.map_map]; rfl
theorem flatMap_filter_skip {α β : Type} {f : α → List β} {q : α → Bool} : ∀ {l : List α}, (∀ x ∈ l, q x = false → f x = []) → (l.filter q).flatMap f = l.flatMap f
 | [], _ => rfl
 | x :: l, h => by
  have ih := flatMap_filter_skip (f := f) (q := q) (l := l) (fun y hy => h y (List.mem_cons_of_mem _ hy))
  rw [List.filter_cons]
  cases hq : q x with
  | true => simp [ih]
  | false => simp [ih, h x (List.mem_cons_self ..) hq]
theorem map_range_at (l : List It) : (List.range l.length).map (fun i => childAt l i) = l.map It.child := by
 apply List.ext_getElem?
 intro i
 rw [List.getElem?_map, List.getElem?_map]
 by_cases h : i < l.length
 ·rw [List.getElem?_range h, List.getElem?_eq_getElem h]
  simp only [Option.map_some]
  unfold childAt
  rw [List.getElem?_eq_getElem h]; rfl
 rw [List.getElem?_eq_none (by simp; omega), List.getElem?_eq_none (by omega)]; rfl
theorem childAt_some {l : List It} {i : Nat} {x : It} (h : l[i]? = some x) : childAt l i = x.child := by unfold childAt; rw [h]; rfl
theorem items_step {rd : Int → Option Pg} {r r' : Rg} {k : Nat} {n : Int} (hs : soundT rd k n) (hk : keysIn rd k n r') (hl : ∀ p i, rd n = some p → (meetR (ownR p i) r).lo.length ≤ 24) : ∃ p, rd n = some p ∧ (p.kind = 1 ∨ p.kind = 2) ∧
  (p.kind = 1 → itemsR rd r (n, k) = p.items.filter fun y => decide (hasR r y.key)) ∧
  (p.kind = 2 → ∃ j, k = j + 1 ∧ itemsR rd r (n, k) = restI rd r (withinS p r j) ∧ (∀ x ∈ withinS p r j, soundT rd x.2 x.1 ∧ ∃ r'', keysIn rd x.2 x.1 r'') ∧ numS rd (withinS p r j) < numT rd k n) := by
 cases k with
 | zero =>
  obtain ⟨p, h1, h2, h3⟩ := hs
  refine ⟨p, h1, .inl h2, fun _ => ?_, fun h => by omega⟩
  unfold itemsR
  simp only [itemsT, h1]
 | succ j =>
  obtain ⟨p, h1, h2, h3⟩ := hs
  obtain ⟨p', h1', h4, h5⟩ := hk
  rw [h1] at h1'
  cases h1'
  refine ⟨p, h1, .inr h2, fun h => by omega, fun _ => ⟨j, rfl, ?_, fun x hx => ?_, ?_⟩⟩
  ·have e1 : itemsR rd r (n, j + 1) = (p.items.map It.child).flatMap fun c => itemsR rd r (c, j) := by
    unfold itemsR
    simp only [itemsT, h1]
    rw [List.filter_flatMap, List.flatMap_map]
   rw [e1, ← map_range_at, List.flatMap_map]
   unfold restI withinS
   rw [← List.map_reverse, ← List.filter_reverse, List.reverse_reverse, List.flatMap_map]
   symm
   apply flatMap_filter_skip
   intro i hi hc
   have hi := List.mem_range.1 hi
   obtain ⟨x, hx⟩ : ∃ x, p.items[i]? = some x := ⟨_, List.getElem?_eq_getElem hi⟩
   rw [childAt_some hx]
   unfold itemsR
   rw [List.filter_eq_nil_iff]
   intro y hy hyr
   have h6 := (hasR_meet.1 (keysIn_items (h5 i x hx) y hy)).2
   have h7 := childIn_of h6 (by simpa using hyr) (hl p i h1)
   simp [h7] at hc
  ·unfold withinS at hx
   obtain ⟨i, hi, rfl⟩ := List.mem_map.1 hx
   have hi := List.mem_range.1 (List.mem_reverse.1 (List.mem_filter.1 hi).1)
   obtain ⟨x, hx⟩ : ∃ x, p.items[i]? = some x := ⟨_, List.getElem?_eq_getElem hi⟩
   rw [childAt_some hx]
   exact ⟨h3 x (List.mem_of_getElem? hx), _, h5 i x hx⟩
  rw [numT, h1]
  have key : ∀ (q : Nat → Bool) (l : List Nat) , ((l.filter q).map fun i => numT rd j (childAt p.items i)).sum ≤ (l.map fun i => numT rd j (childAt p.items i)).sum := by
   intro q l
   induction l with
   | nil => exact Nat.le_refl _
   | cons i l ih =>
    rw [List.filter_cons]
    split
    ·simp only [List.map_cons, List.sum_cons]; omega
    simp only [List.map_cons, List.sum_cons]; omega
  have h6 := key (fun i => decide (childIn p r i)) (List.range p.items.length)
  have h7 : ((List.range p.items.length).map fun i => numT rd j (childAt p.items i)) = p.items.map fun x => numT rd j x.child := by
   have := congrArg (List.map (numT rd j)) (map_range_at p.items)
   rw [List.map_map, List.map_map] at this
   exact this
  rw [h7] at h6
  have h8 : numS rd (withinS p r j) = numS rd (withinS p r j).reverse := (numS_rev rd _).symm
  rw [h8]
  unfold withinS numS
  rw [← List.map_reverse, ← List.filter_reverse, List.reverse_reverse, List.map_map]
  simp only
  have h9 : (((List.range p.items.length).filter fun i => decide (childIn p r i)).map ((fun x : Int × Nat => numT rd x.2 x.1) ∘ fun i => (childAt p.items i, j))).sum = (((List.range p.items.length).filter fun i => decide (childIn p r i)).map fun i => numT rd j (childAt p.items i)).sum := rfl
  omega
structure PrsOk (L : List Assn) (v : Value) (l : List PrV) : Prop where
 sl : Knows L (SlT 2 v (l.map PrV.cells))
 kk : ∀ x ∈ l, Knows L (SlB x.kv x.pr.1)
 kv : ∀ x ∈ l, Knows L (SlB x.vv x.pr.2)
 len : l.length ≤ 1000000000
theorem PrsOk.of {L L' : List Assn} {v : Value} {l : List PrV} (h : PrsOk L v l) (s : Suf L L') : PrsOk L' v l := ⟨h.sl.of s, fun x hx => (h.kk x hx).of s, fun x hx => (h.kv x hx).of s, h.len⟩
theorem Sat.drop2 {G : Gh} {A B : Assn} {R : List Assn} {w : World} (h : Sat G (A :: B :: R) w) : Sat G (A :: R) w := by
 have hz := h.b [B]
 exact hz.tail
def PPre (F : List Assn → Prop) (l : List PrV) (k : Nat) (args : List Value) (M : List Assn) : Prop := ∃ x, l[k]? = some x ∧ args = [.int .i64 k, .agg x.cells.toArray] ∧ F M
section
variable {G : Gh} {L R : List Assn} {w : World}
theorem it_All_pairs {F : List Assn → Prop} {l : List PrV} {v : Value} {b1 : Nat} (hp : PrsOk L v l) (hF : ∀ b c, F (blk b c 66 :: blk b1 [v] 58 :: L)) : Iter Tryz.prog 105 [.pointer (some ⟨b1, 0, none⟩)] G (blk b1 [v] 58 :: L) w l.length (PPre F l) (blk b1 [v] 58 :: L) := by
 intro lq J Jx w hy hw
 obtain ⟨sa, sc, h1, -, -⟩ := ((hp.sl.of sF).at hw).form
 rw [List.length_map] at h1
 subst h1
 have hll := hp.len
 refine calls_of_x (args := [_, _]) Tryz.func105 rfl Tryz.ntmps105 rfl rfl ?_
 refine z2 ?_
 refine lD one_sl_api_Pair hw ?_
 refine x_len rfl rfl trivial (by kernel_rfl) U_sl_api_Pair rfl ?_
 refine z3 ?_
 refine x_loop (fun m e w => ∃ k : Nat, k ≤ l.length ∧ m = l.length - k ∧ e = [(0, .func (.yield lq) #[] #[]), (5, .slice sa l.length sc), (6, .int .i64 l.length), (7, .int .i64 k)] ∧ Sat G (J k :: blk b1 [.slice sa l.length sc] 58 :: L) w)
  (m := l.length) (e₀ := [(0, .func (.yield lq) #[] #[]), (5, .slice sa l.length sc), (6, .int .i64 l.length), (7, .int .i64 (0 : Nat))]) sB
  ⟨0, Nat.zero_le _, rfl, rfl, hw⟩ ?_
 rintro m e w ⟨k, hk, rfl, rfl, hw⟩
 refine z5 ?_
 refine x_if rfl (fun h1 => ?_) (fun h1 => ?_)
 ·
  have hk' : k < l.length := by omega
  obtain ⟨x, hx⟩ : ∃ x, l[k]? = some x := ⟨_, List.getElem?_eq_getElem hk'⟩
  have hxr : (l.map PrV.cells)[k]? = some x.cells := by rw [List.getElem?_map, hx]; rfl
  obtain ⟨xa, xc, hxk⟩ := (((hp.kk x (List.mem_of_getElem? hx)).of sF).at hw).form
  obtain ⟨ya, yc, hxv⟩ := (((hp.kv x (List.mem_of_getElem? hx)).of sF).at hw).form
  obtain ⟨bb, oo, hsa⟩ := ((hp.sl.of sF).at hw).nn (by rw [List.length_map]; omega)
  cases hsa
  refine z6 ?_
  refine x_idx rfl rfl trivial U_sl_api_Pair sz_api_Pair rfl rfl ⟨by omega, by omega⟩ ?_
  refine x_ld rfl rfl trivial rfl (Loads.many (cs := x.cells) many_api_Pair rfl (by rw [Int.toNat_natCast]; exact ((hp.sl.of sF).at hw).at hxr)) ?_
  refine x_alloc rfl rfl trivial z_api_Pair hw rfl (fun w b4 hw => ?_)
  refine z1 ?_
  refine x_stN (cs := x.cells) (l' := x.cells) rfl trivial rfl rfl many_api_Pair rfl (by intro u hu; simp [PrV.cells, hxk, hxv] at hu; rcases hu with rfl | rfl <;> rfl) hw pK (by simp [PrV.cells]) rfl rfl (fun w hw => ?_)
  refine z5 ?_
  refine lA (l := x.cells) many_api_Pair hw ?_
  have hz := hw.b [J k, blk b4 _ _]
  refine x_yield rfl rfl trivial rfl rfl (hy k _ _ w hk' ⟨x, hx, rfl, hF _ _⟩ hz) rfl (fun w v15 hv => ?_)
  obtain ⟨bq, rfl, hb1, hb2⟩ := yield_or hv
  refine x_not rfl rfl trivial rfl ?_
  refine xl_nil ?_
  refine x_cond rfl (fun h2 => ?_) (fun h2 => ?_)
  ·
   refine x_ret ?_
   exact end0 rfl rfl (.inr (by
 have hz := hb2 (by simpa using h2)
 exact hz.drop2))
  refine z5 ?_
  have hz := (hb1 (by simpa using h2)).drop2
  exact ⟨l.length - (k + 1), by omega, [(0, _), (5, _), (6, _), (7, .int .i64 (k + 1 : Nat))], sB, k + 1, by omega, rfl, rfl, hz⟩
 refine z1 ?_
 exact end0 rfl rfl (.inl (by
 have hke : k = l.length := by omega
 subst hke; exact hw))
end
def TPre (l : List PrV) (k : Nat) (args : List Value) (_ : List Assn) : Prop := ∃ x a c a' c', l[k]? = some x ∧ args = [.slice a x.pr.1.length c, .slice a' x.pr.2.length c']
section
variable {G : Gh} {L R : List Assn} {w : World}
theorem it_told {ps : List PrV} {gf : Nat} {lb : List Value} {b1 : Nat} {v : Value} {Li Lx : List Assn} (hcl : Callable Tryz.prog gf) (hll : ∀ x ∈ ps, Small x.pr.1 ∧ Small x.pr.2) (hit : ∀ (X : Assn) w, Iter Tryz.prog gf lb G (X :: Li) w ps.length (PPre (fun M => PrsOk M v ps) ps) (X :: Lx)) : Iter Tryz.prog 104 [.pointer (some ⟨b1, 0, none⟩)] G (blk b1 [.func (.func gf) #[] lb.toArray] 133 :: Li) w ps.length (TPre ps) (blk b1 [.func (.func gf) #[] lb.toArray] 133 :: Lx) := by
 intro lo Jo Jx w hy hw
 refine calls_of_x (args := [_, _]) Tryz.func104 rfl Tryz.ntmps104 rfl rfl ?_
 refine z2 ?_
 refine x_box rfl rfl trivial rfl rfl hw rfl (fun w b2 hw => ?_)
 refine z3 ?_
 refine lD (v := .func (.func gf) #[] lb.toArray) one_iter_Seq2_int_api_Pair hw ?_
 refine z2 ?_
 have hz := hw.b [Jo 0, blk b2 _ _, blk b1 _ _]
 clear hw
 have hw := Sat.both_in (M := [_, _]) hz
 refine x_range (e₀ := [(2, .pointer (some ⟨b2, 0, none⟩))]) (fun k => both [Jo k, blk b2 [.func (.yield lo) #[] #[]] 185]) (Jx) [] rfl hcl rfl sG rfl hw (fun k args M h => by obtain ⟨x, _, rfl, _⟩ := h; rfl) (hit _ _) ?_ ?_ ?_ ?_
 ·
  clear hw
  intro l D1 o k args M w hk hpre hw
  obtain ⟨x, hx, rfl, hp⟩ := hpre
  have hw := hw.both_out
  simp only [List.cons_append, List.nil_append] at hw
  have hxm := List.mem_of_getElem? hx
  obtain ⟨xa, xc, hxk⟩ := (((hp.kk x hxm).of sF).at hw).form
  obtain ⟨ya, yc, hxv⟩ := (((hp.kv x hxm).of sF).at hw).form
  refine z1 ?_
  refine x_alloc rfl rfl trivial z_api_Pair hw rfl (fun w b4 hw => ?_)
  refine x_stN (cs := x.cells) (l' := x.cells) rfl trivial rfl rfl many_api_Pair rfl (by intro u hu; simp [PrV.cells, hxk, hxv] at hu; rcases hu with rfl | rfl <;> rfl) hw pK (by simp [PrV.cells]) rfl rfl (fun w hw => ?_)
  refine xl_nil ?_
  refine ⟨_, hw.pick (A := pt l o) pK, fun o' w hw => ?_⟩
  refine z2 ?_
  refine x_draw [0, 1, 2, 4, 5, 3, 6, 7, 8] mixed (by kernel_rfl) ?_
  replace hw := hw.drawn (w.drawn + 1)
  refine lD (v := .func (.yield lo) #[] #[]) one_funcsl_uint8_sl_uint8_bool hw ?_
  refine z1 ?_
  refine x_ld rfl rfl trivial rfl (Loads.blk1 (v := .slice xa x.pr.1.length xc) one_sl_uint8 hw pK (by rw [← hxk]; rfl)) ?_
  refine z1 ?_
  refine x_ld rfl rfl trivial rfl (Loads.blk1 (v := .slice ya x.pr.2.length yc) one_sl_uint8 hw pK (by rw [← hxv]; rfl)) ?_
  refine x_callP rfl rfl trivial cal_slices_Clone_byte_byte rfl (ct_slices_Clone_byte_byte (l := x.pr.1) hw (by rw [← hxk]; exact (hp.kk x hxm).of sF) (hll x hxm).1) (fun w v11 hv q' hq => ?_) (fun w v11 hv => ?_)
  ·
   have hw : Sat G (row 5 1 v11 x.pr.1.length (bys x.pr.1) :: _) _ := hv
   have hq := pend_mem (l := [5, 0]) (by kernel_rfl) hq
   simp only [List.mem_cons, List.not_mem_nil, or_false] at hq
   rcases hq with rfl | rfl
   ·exact chk_ld rfl rfl rfl (Loads.blk1 (v := .slice ya x.pr.2.length yc) one_sl_uint8 hw pK (by rw [← hxv]; rfl))
   exact chk_ld rfl rfl rfl (Loads.blk1 (v := .func (.yield lo) #[] #[]) one_funcsl_uint8_sl_uint8_bool hw pK rfl)
  have hw : Sat G (row 5 1 v11 x.pr.1.length (bys x.pr.1) :: _) _ := hv
  refine x_callP rfl rfl trivial cal_slices_Clone_byte_byte rfl (ct_slices_Clone_byte_byte (l := x.pr.2) hw (by rw [← hxv]; exact (hp.kv x hxm).of sF) (hll x hxm).2) (fun w v14 hv q' hq => ?_) (fun w v14 hv => ?_)
  ·
   have hw : Sat G (row 5 1 v14 x.pr.2.length (bys x.pr.2) :: _) _ := hv
   have hq := pend_mem (l := [0]) (by kernel_rfl) hq
   simp only [List.mem_cons, List.not_mem_nil, or_false] at hq
   subst hq
   exact chk_ld rfl rfl rfl (Loads.blk1 (v := .func (.yield lo) #[] #[]) one_funcsl_uint8_sl_uint8_bool hw pK rfl)
  have hw : Sat G (row 5 1 v14 x.pr.2.length (bys x.pr.2) :: _) _ := hv
  obtain ⟨va, vc, rfl⟩ := row_form hw
  obtain ⟨wa, wc, rfl⟩ := row_form (hw.pick (A := row 5 1 v11 _ _) pK)
  refine x_yield rfl rfl trivial rfl rfl (hy k _ _ w hk ⟨x, wa, wc, va, vc, hx, rfl⟩ (hw.pick (A := Jo _) pK)) (by kernel_rfl) (fun w v15 hv => ?_)
  obtain ⟨bq, rfl, hb1, hb2⟩ := yield_or hv
  refine x_not rfl rfl trivial rfl ?_
  refine xl_nil ?_
  refine x_cond rfl (fun h1 => ?_) (fun h1 => ?_)
  ·
   refine x_ret ?_
   exact ((hb2 (by simpa using h1)).b [row 5 1 (.slice va _ vc) _ _, row 5 1 (.slice wa _ wc) _ _, blk b4 _ _, blk b2 _ _, Jx, pt l _, dblk D1]).tail.tail.tail.tail
  refine x_skip ?_
  have hz := ((hb1 (by simpa using h1)).b [row 5 1 (.slice va _ vc) _ _, row 5 1 (.slice wa _ wc) _ _, blk b4 _ _, Jo _, blk b2 _ _, pt l _, dblk D1]).tail.tail.tail
  exact Sat.both_in (M := [_, _]) hz
 ·
  clear hw
  intro D1 w hw
  have hw := hw.both_out
  simp only [List.cons_append, List.nil_append] at hw
  refine bodyEnd_leave rfl ?_
  refine leave_dblk hw pK (fun w hw => ?_)
  exact leave0 rfl (.inl (hw.b [blk b2 _ _]).tail)
 ·
  clear hw
  intro D1 w hw
  refine bodyEnd_leave rfl ?_
  refine leave_dblk hw pK (fun w hw => ?_)
  exact leave0 rfl (.inr hw)
 intro id A hA; cases hA
end
section
variable {G : Gh} {L R : List Assn} {w : World}
theorem ct_walk_items {vq : Nat} {t : Tr} {r : RgV} (hw : Sat G L w) : Calls Tryz.prog 77 #[.pointer (some ⟨vq, 0, none⟩), .agg (treeC t).toArray, .agg r.cells.toArray] w (Ret fun u w' => ∃ b3 b4 b5, u = .func (.func 137) #[] #[.pointer (some ⟨b4, 0, none⟩), .pointer (some ⟨b3, 0, none⟩), .pointer (some ⟨b5, 0, none⟩)] ∧ Sat G (blk b4 (treeC t) 62 :: blk b3 [.pointer (some ⟨vq, 0, none⟩)] 28 :: blk b5 r.cells 64 :: L) w') := by
 refine calls_of_x (args := [_, _, _]) Tryz.func77 rfl Tryz.ntmps77 rfl rfl ?_
 refine z2 ?_
 refine x_box rfl rfl trivial rfl rfl hw rfl (fun w b3 hw => ?_)
 refine x_box rfl rfl trivial rfl rfl hw rfl (fun w b4 hw => ?_)
 refine x_box rfl rfl trivial rfl rfl hw rfl (fun w b5 hw => ?_)
 refine z4 ?_
 refine x_mkf (v1 := #[]) (v2 := #[.pointer (some ⟨b4, 0, none⟩), .pointer (some ⟨b3, 0, none⟩), .pointer (some ⟨b5, 0, none⟩)]) rfl rfl trivial (by intro z hz; simp at hz; rcases hz with rfl | rfl | rfl <;> exact ⟨_, rfl⟩) (by simp) (by simp only [List.map_toArray, List.map_cons, List.map_nil]; rfl) ?_
 refine z3 ?_
 exact end1 rfl rfl rfl ⟨b3, b4, b5, rfl, hw.b [blk b4 _ _, blk b3 _ _, blk b5 _ _]⟩
end
def YieldSpecG (P : Program) (G : Gh) (l n : Nat) (Pre : Nat → List Value → List Assn → List Assn → Prop) (J : Nat → Assn) (Jx : Assn) : Prop :=
 ∀ k args gift M w, k < n → Pre k args gift M → Sat G (J k :: (gift ++ M)) w → Yields P l args w fun v w' => (v = .bool true ∧ Sat G (J (k + 1) :: M) w') ∨ (v = .bool false ∧ Sat G (Jx :: M) w')
def IterG (P : Program) (gf : FuncId) (lb : List Value) (G : Gh) (L : List Assn) (w : World) (n : Nat) (Pre : Nat → List Value → List Assn → List Assn → Prop) (Lx : List Assn) : Prop :=
 ∀ (l : Nat) (J : Nat → Assn) (Jx : Assn) (w' : World), YieldSpecG P G l n Pre J Jx → Sat G (J 0 :: L) w' → Calls P gf (.func (.yield l) #[] #[] :: lb).toArray w' (Ret fun _ w'' => Sat G (J n :: Lx) w'' ∨ Sat G (Jx :: Lx) w'')
section
variable {P : Program} {n : Nat} {K F : Cont} {E : List (Nat × Cont)} {e e₀ : Env} {w : World} {G : Gh} {L Lx : List Assn}
theorem x_rangeG {gop : Operand} {ps : Array Tmp} {assign body : Code} {gf : FuncId} {lb : List Value} {m : Nat} {Pre : Nat → List Value → List Assn → List Assn → Prop}
  (J : Nat → Assn) (Jr : Assn) (Je : List (Nat × Assn))
  (hg : ev e gop = some (.func (.func gf) #[] lb.toArray)) (hf : Callable P gf) (hps : ps.toList.all (Nat.blt · n) = true)
  (hs : SubG e₀ e) (hm₀ : marks e₀ = []) (hw : Sat G (J 0 :: L) w) (hlen : ∀ k args gift M, Pre k args gift M → ps.toList.length = args.length) (hit : IterG P gf lb G L w m Pre Lx)
  (hbody : ∀ (l D : Nat) (o : Obj) (k : Nat) (args : List Value) (gift M : List Assn) (w : World), k < m → Pre k args gift M → Sat G (J k :: pt l o :: dblk D :: (gift ++ M)) w →
   X P n (some l) assign (fun e₁ w₁ => ∃ L1, Sat G (pt l o :: L1) w₁ ∧ ∀ (o' : Obj) (w₂ : World), Sat G (pt l o' :: L1) w₂ →
    X P n (some l) body (fun _ w => Sat G (J (k + 1) :: pt l o' :: dblk D :: M) w) (exsOf G Je (pt l o' :: dblk D :: M)) (fun _ w => Sat G (Jr :: pt l o' :: dblk D :: M) w) e₁ w₂) [] (fun _ _ => False) (psE ps.toList args e₀) w)
  (hdone : ∀ (D : Nat) (w : World), Sat G (J m :: dblk D :: Lx) w → K ((1000000000, .pointer (some ⟨D, 0, none⟩)) :: e) w)
  (hret : ∀ (D : Nat) (w : World), Sat G (Jr :: dblk D :: Lx) w → F ((1000000000, .pointer (some ⟨D, 0, none⟩)) :: e) w)
  (hex : ∀ (id : Nat) (A : Assn), (id, A) ∈ Je → ∃ K', extOf E id = some K' ∧ ∀ (D : Nat) (w : World), Sat G (A :: dblk D :: Lx) w → K' ((1000000000, .pointer (some ⟨D, 0, none⟩)) :: e) w) :
  X P n none (.rangeFunc gop ps assign body) K E F e w := fun a ha => by
 refine wpIn_rangeFunc (F := Fw none) ?_
 intro fn _
 obtain ⟨D, hD⟩ : ∃ D, D = w.heap.size := ⟨_, rfl⟩
 obtain ⟨rec, hrec⟩ : ∃ rec : LoopState → Option Code → Obj, rec = fun st pe => recO fn a.tmps ps assign body D st pe := ⟨_, rfl⟩
 have hsat : Sat G (pt (D + 1) (rec .ready none) :: dblk D :: J 0 :: L) ((w.alloc (.deferred (some []))).alloc (rec .ready none)) := by
  have h1 := hw.push (.deferred (some []))
  have h2 := h1.push (rec .ready none)
  simp only [Array.size_push] at h2
  rw [hD]
  exact h2
 obtain ⟨W1, hW1⟩ : ∃ W1, (w.alloc (.deferred (some []))).alloc (rec .ready none) = W1 := ⟨_, rfl⟩
 rw [hW1] at hsat
 have hev := ha.ev hg
 obtain ⟨ff, hf1, hf2, hf3⟩ := hf
 refine ⟨D + 1, [{ target := .collected D, args := #[] }], W1, { target := .fn (.func gf) lb.toArray, args := #[.func (.yield (D + 1)) #[] #[]] }, W1, gf,
  (.func (.yield (D + 1)) #[] #[] :: lb).toArray, W1, ?_, ?_, fun _ _ => trivial, ?_, (fun hd => by cases hd), ?_⟩
 ·rw [← hW1, hrec, hD]; exact run_enterLoop_outer _ _ _ _ _
 ·simp only [resolve, hev]
  simp [Deferred.ofValue, Act.eval]
 ·simp only [invoke, callFunc, Sem.run_bind, Sem.run_pure, Result.andThen_ok, program, Sem.run, hf1, hf2, hf3]
  simp
 have hjump : ∀ (st : LoopState) (pe : Option Code) (A : Assn) (w₃ : World), st ≠ .busy → Sat G (pt (D + 1) (rec st pe) :: dblk D :: A :: Lx) w₃ → ∃ w₄, (Instr.endLoop (D + 1)).run P w₃ = .ok pe w₄ ∧ Sat G (A :: dblk D :: Lx) w₄ := fun st pe A w₃ hst h => by
  have h1 := h.pt_head
  rw [hrec] at h1
  have h2 := run_endLoop (P := P) (r := { state := st, pending := pe, fn, tmps := a.tmps, params := ps, assign, body, defers := D }) h1 hst
  exact ⟨_, h2, ((putObj_set h _).tail).pick (.there .here)⟩
 have hag : Agree n ((1000000000, .pointer (some ⟨D, 0, none⟩)) :: e) { a with defers := [{ target := .collected D, args := #[] }] ++ a.defers } := by
  refine ⟨?_, ha.size, ha.small, fun t v hv => ?_⟩
  ·simp [marks, dfr, ha.defers]
  rcases get_cons hv with ⟨h1, _⟩ | ⟨_, h2⟩
  ·exact absurd h1.symm (get_mk hv)
  exact ha.get t v h2
 have hag0 : Agree n e₀ { tmps := a.tmps, defers := [] } := ⟨by rw [hm₀]; rfl, ha.size, ha.small, fun t v hv => ha.get t v (hs t v hv)⟩
 obtain ⟨Jk, hJk⟩ : ∃ Jk : Nat → Assn, Jk = fun k h => all [pt (D + 1) (rec .ready none), dblk D, J k] h := ⟨_, rfl⟩
 obtain ⟨Jx, hJx⟩ : ∃ Jx : Assn, Jx = fun h => all [pt (D + 1) (rec .done (some .ret)), dblk D, Jr] h ∨ ∃ id A, (id, A) ∈ Je ∧ all [pt (D + 1) (rec .done (some (.exit id))), dblk D, A] h := ⟨_, rfl⟩
 have hy : YieldSpecG P G (D + 1) m Pre Jk Jx := fun k args gift M w' hk hpre hS => by
  rw [hJk] at hS
  obtain ⟨hh, h1, h2⟩ := assn_out hS
  have hS' : Sat G (pt (D + 1) (rec .ready none) :: dblk D :: J k :: (gift ++ M)) w' := h2 _ h1
  have hl := hlen k args gift M hpre
  have hrow := hS'.pt_head
  rw [hrec] at hrow
  refine ⟨fn, _, assign, body, run_yield (r := { state := .ready, pending := none, fn, tmps := a.tmps, params := ps, assign, body, defers := D }) hrow (by simpa using hl.symm), ?_⟩
  refine roundIn_of_wpIn (F := Fw none) trivial ?_
  have hargs : ((ps.zip args.toArray).foldl (fun tmps x => tmps.setIfInBounds x.1 x.2) a.tmps) = (ps.toList.zip args).foldl (fun t x => t.setIfInBounds x.1 x.2) a.tmps := by
   rw [← Array.foldl_toList, Array.toList_zip]
  have hX := hbody (D + 1) D (rec .ready none) k args gift M w' hk hpre (hS'.bring (As := [J k]) (.cons (.there (.there .here)) .nil)) _ (agree_ps ps.toList args e₀ _ hag0 hps hl)
  show assign.wpIn (Fw (some (D + 1))) 0 P _ { tmps := ((ps.zip args.toArray).foldl (fun tmps x => tmps.setIfInBounds x.1 x.2) a.tmps), defers := [] } w'
  rw [hargs]
  refine wpIn_mono hX fun ex a₁ w₁ hq => ?_
  cases ex <;> simp only [outAt, extOf] at hq <;> simp only [Exit.then]
  case exit => obtain ⟨K', h, _⟩ := hq; cases h
  case ret => obtain ⟨_, _, h⟩ := hq; exact h
  case normal =>
   obtain ⟨e₁, ha₁, L1, hS1, hcont⟩ := hq
   have hrow1 := hS1.pt_head
   rw [hrec] at hrow1
   refine ⟨_, run_beginRound (r := { state := .ready, pending := none, fn, tmps := a.tmps, params := ps, assign, body, defers := D }) hrow1 rfl, ?_⟩
   refine wpIn_mono (hcont (rec .busy none) _ (by rw [hrec]; exact putObj_set hS1 _) a₁ ha₁) fun ex a₂ w₂ hq => ?_
   have hend : ∀ (jump : Option Code) (A : Assn), Sat G (A :: pt (D + 1) (rec .busy none) :: dblk D :: M) w₂ → ∃ w₃, (Instr.endRound (D + 1) jump).run P w₂ = .ok (.bool jump.isNone) w₃ ∧ Sat G (pt (D + 1) (rec (if jump.isNone then .ready else .done) jump) :: dblk D :: A :: M) w₃ := fun jump A h => by
    have h := h.bring (As := [pt (D + 1) _, dblk D]) (.cons (.there .here) (.cons (.there .here) .nil))
    have h1 := h.pt_head
    rw [hrec] at h1
    refine ⟨_, run_endRound (r := { state := .busy, pending := none, fn, tmps := a.tmps, params := ps, assign, body, defers := D }) jump h1, ?_⟩
    rw [hrec]; exact putObj_set h _
   cases ex <;> simp only [outAt] at hq <;> simp only [roundPost]
   case normal =>
    obtain ⟨_, _, h⟩ := hq
    obtain ⟨w₃, h3, h4⟩ := hend none _ h
    exact ⟨_, w₃, h3, _, rfl, .inl ⟨rfl, by rw [hJk]; exact assn_in (M := [_, _, _]) h4 fun _ h => h⟩⟩
   case ret =>
    obtain ⟨_, _, h⟩ := hq
    obtain ⟨w₃, h3, h4⟩ := hend (some .ret) _ h
    exact ⟨_, w₃, h3, _, rfl, .inr ⟨rfl, by rw [hJx]; exact assn_in (M := [_, _, _]) h4 fun _ h => .inl h⟩⟩
   case exit id =>
    obtain ⟨K', hk', _, _, h⟩ := hq
    obtain ⟨A, hA, rfl⟩ := extOf_exs hk'
    obtain ⟨w₃, h3, h4⟩ := hend (some (.exit id)) _ h
    exact ⟨_, w₃, h3, _, rfl, .inr ⟨rfl, by rw [hJx]; exact assn_in (M := [_, _, _]) h4 fun _ h => .inr ⟨id, A, hA, h⟩⟩⟩
 have h0 : Sat G (Jk 0 :: L) W1 := by rw [hJk]; exact assn_in (M := [_, _, _]) hsat fun _ h => h
 refine Calls.fw (Calls.mono (hit (D + 1) Jk Jx W1 hy h0) fun en w₃ ⟨v, hv, hR⟩ => ?_) none _
 subst hv
 show ∃ jump w₄, _
 rcases hR with hR | hR
 ·rw [hJk] at hR
  obtain ⟨hh, h1, h2⟩ := assn_out hR
  obtain ⟨w₄, h3, h4⟩ := hjump _ _ _ w₃ (by simp) (h2 _ h1)
  exact ⟨none, w₄, h3, _, hag, hdone D w₄ h4⟩
 rw [hJx] at hR
 obtain ⟨hh, h1 | ⟨id, A, hA, h1⟩, h2⟩ := assn_out hR
 ·obtain ⟨w₄, h3, h4⟩ := hjump _ _ _ w₃ (by simp) (h2 _ h1)
  exact ⟨some .ret, w₄, h3, wpIn_ret ⟨_, hag, hret D w₄ h4⟩⟩
 obtain ⟨w₄, h3, h4⟩ := hjump _ _ _ w₃ (by simp) (h2 _ h1)
 obtain ⟨K', hk', hK⟩ := hex id A hA
 exact ⟨some (.exit id), w₄, h3, wpIn_exit ⟨K', hk', _, hag, hK D w₄ h4⟩⟩
end
def ItPre (vq : Nat) (V : Va) (its : List It) (k : Nat) (args : List Value) (gift M : List Assn) : Prop := ∃ (x : ItV) (R : List Assn), its[k]? = some x.it ∧ args = [.agg x.cells.toArray] ∧ gift = itParts x ∧ Small x.it.key ∧ Small x.it.value ∧ Pick (vaA vq V) M R
theorem Sat.both_split {G : Gh} {R M N : List Assn} {w : World} (h : Sat G (both (M ++ N) :: R) w) : Sat G (M ++ (both N :: R)) w := by
 have h1 := h.both_out
 rw [List.append_assoc] at h1
 exact h1.mono fun x hx => by
  have key : ∀ (M : List Assn) (x : HMap), all (M ++ (N ++ R)) x → all (M ++ both N :: R) x := fun M => by
   induction M with
   | nil => exact fun x hx => (all_append N R x).2 hx
   | cons A M ih => exact fun x hx => all_cons_mono ih hx
  exact key M x hx
theorem ints_flat (l : List Int) : ints l = (l.map fun c => [Value.int .i64 c]).flatten := by
 induction l with
 | nil => rfl
 | cons x l ih => simp only [ints, List.map_cons, List.flatten_cons, List.singleton_append] at ih ⊢; rw [ih]
theorem intsT (v : Value) (l : List Int) {R : List Assn} : Knows (row 3 1 v l.length (ints l) :: R) (SlT 1 v (l.map fun c => [Value.int .i64 c])) := by
 rw [ints_flat]
 exact (SlT.row (by simp) (fun r hr => by obtain ⟨c, _, rfl⟩ := List.mem_map.1 hr; rfl)).head R
section
variable {G : Gh} {L R : List Assn} {w : World}
theorem it_items {vq b4 b3 b5 kk : Nat} {V : Va} {t : Tr} {r : RgV} {its : List It} (hok : V.Ok) (hs : t.root ≠ 0 → soundT V.rd kk t.root ∧ ∃ r', keysIn V.rd kk t.root r') (hits : its = if t.root = 0 then [] else itemsR V.rd r.rg (t.root, kk)) (hnum : t.root ≠ 0 → numT V.rd kk t.root ≤ 1000000000) (hl : ∀ n p i, V.rd n = some p → (meetR (ownR p i) r.rg).lo.length ≤ 24) (hr : r.Ok L) :
  IterG Tryz.prog 137 [.pointer (some ⟨b4, 0, none⟩), .pointer (some ⟨b3, 0, none⟩), .pointer (some ⟨b5, 0, none⟩)] G (blk b4 (treeC t) 62 :: blk b3 [.pointer (some ⟨vq, 0, none⟩)] 28 :: blk b5 r.cells 64 :: vaA vq V :: L) w its.length (ItPre vq V its) (blk b4 (treeC t) 62 :: blk b3 [.pointer (some ⟨vq, 0, none⟩)] 28 :: blk b5 r.cells 64 :: vaA vq V :: L) := by
 intro lo Jo Jx w hy hw
 refine calls_of_x (args := [_, _, _, _]) Tryz.func137 rfl Tryz.ntmps137 rfl rfl ?_
 refine x_scope ?_
 refine z4 ?_
 refine lD (v := .int .i64 t.root) one_int hw ?_
 refine z2 ?_
 refine x_if rfl (fun h1 => ?_) (fun h1 => ?_)
 ·
  refine x_ret ?_
  exact end0 rfl rfl (.inl (by
 rw [if_pos h1] at hits
 subst hits
 exact hw))
 obtain ⟨hs1, r', hs2⟩ := hs h1
 have hnum := hnum h1
 rw [if_neg h1] at hits
 refine z4 ?_
 refine lD (v := .int .i64 t.root) one_int hw ?_
 refine x_bs1 (cs := [.int .i64 t.root]) rfl rfl trivial U_sl_int sz_int zs_int (by decide) rfl rfl rfl hw rfl (fun w b16 hw => ?_)
 refine z3 ?_
 refine x_label ?_
 refine z1 ?_
 have hw := row_full (z := 1) (m := 1) hw rfl (by simp only [maxLen]; omega)
 have hw := hw.b [Jo 0, row 3 1 _ _ _, blk b4 _ _, blk b3 _ _, blk b5 _ _, vaA vq V]
 have hw : Sat G (Jo 0 :: row 3 1 (.slice (some ⟨b16, 0, none⟩) 1 1) [(t.root, kk)].length (ints ([(t.root, kk)].map (·.1))) :: blk b4 (treeC t) 62 :: blk b3 [.pointer (some ⟨vq, 0, none⟩)] 28 :: blk b5 r.cells 64 :: vaA vq V :: L) w := hw
 refine x_loop (fun m e w => ∃ (st : List (Int × Nat)) (k : Nat) (tv : Value), m = numS V.rd st ∧ e = [(0, .func (.yield lo) #[] #[]), (1, .pointer (some ⟨b4, 0, none⟩)), (2, .pointer (some ⟨b3, 0, none⟩)), (3, .pointer (some ⟨b5, 0, none⟩)), (5, tv)] ∧ ((∀ x ∈ st, soundT V.rd x.2 x.1 ∧ ∃ r', keysIn V.rd x.2 x.1 r') ∧ its.drop k = restI V.rd r.rg st ∧ k ≤ its.length ∧ numS V.rd st ≤ 1000000000) ∧ Sat G (Jo k :: row 3 1 tv st.length (ints (st.map (·.1))) :: blk b4 (treeC t) 62 :: blk b3 [.pointer (some ⟨vq, 0, none⟩)] 28 :: blk b5 r.cells 64 :: vaA vq V :: L) w)
  (m := numS V.rd [(t.root, kk)]) (e₀ := [(0, .func (.yield lo) #[] #[]), (1, .pointer (some ⟨b4, 0, none⟩)), (2, .pointer (some ⟨b3, 0, none⟩)), (3, .pointer (some ⟨b5, 0, none⟩)), (5, .slice (some ⟨b16, 0, none⟩) 1 1)]) sB
  ⟨[(t.root, kk)], 0, _, rfl, rfl, ⟨by intro x hx; simp at hx; subst hx; exact ⟨hs1, r', hs2⟩, by rw [hits]; simp [restI], Nat.zero_le _, by simpa [numS] using hnum⟩, hw⟩ ?_
 rintro m e w ⟨st, k, tv, rfl, rfl, ⟨hst, hfl, hkl, hns⟩, hw⟩
 obtain ⟨ta, tc, rfl⟩ := row_form (hw.pick (A := row 3 1 tv _ _) pK)
 refine z7 ?_
 refine x_if rfl (fun h2 => ?_) (fun h2 => ?_)
 ·
  obtain ⟨st0, x, rfl⟩ : ∃ st0 x, st = st0 ++ [x] := ⟨st.dropLast, st.getLast (by intro h; subst h; simp at h2), (List.dropLast_concat_getLast _).symm⟩
  obtain ⟨n, kn⟩ := x
  obtain ⟨hsn, rn, hkn⟩ := hst (n, kn) (by simp)
  simp only at hsn hkn
  obtain ⟨p, hrd, hkind, hleaf, hindex⟩ := items_step (r := r.rg) hsn hkn (fun p i hp => hl n p i hp)
  have hst0 : ∀ x ∈ st0, soundT V.rd x.2 x.1 ∧ ∃ r', keysIn V.rd x.2 x.1 r' := fun x hx => hst x (List.mem_append_left _ hx)
  have hl9 := numS_len V.rd st0
  have hns2 : numS V.rd (st0 ++ [(n, kn)]) = numS V.rd st0 + numT V.rd kn n := by rw [numS_app]; simp [numS]
  have hnp := numT_pos V.rd kn n
  have hfl2 : its.drop k = itemsR V.rd r.rg (n, kn) ++ restI V.rd r.rg st0 := by rw [hfl, restI_app]; simp [restI]
  have hlen : (st0 ++ [(n, kn)]).length = st0.length + 1 := by simp
  rw [hlen] at hw
  rw [hlen]
  have hti : (ints ((st0 ++ [(n, kn)]).map (·.1)))[st0.length]? = some (.int .i64 n) := by simp [ints]
  have hw := hw.b [row 3 1 (.slice ta _ tc) _ _]
  obtain ⟨-, tb, -, hta, htc, -⟩ := row_some hw (by omega)
  have htk : ∀ R, Knows (row 3 1 (.slice (some ⟨tb, 0, none⟩) (st0.length + 1) tc) (st0.length + 1) (ints ((st0 ++ [(n, kn)]).map (·.1))) :: R) (SlV (.slice (some ⟨tb, 0, none⟩) (st0.length + 1) tc) (ints ((st0 ++ [(n, kn)]).map (·.1)))) := fun R => by
   have h := rowI (v := .slice (some ⟨tb, 0, none⟩) (st0.length + 1) tc) (c := (st0 ++ [(n, kn)]).map (·.1)) (R := R)
   rw [List.length_map, hlen] at h
   exact h
  rw [hta] at hw
  rw [hta]
  have hw := hw.b [row 3 1 (.slice (some ⟨tb, 0, none⟩) _ tc) _ _, Jo k]
  have e32 : (((st0.length + 1 : Nat) : Int) - 1).toNat = st0.length := by omega
  refine z9 ?_
  refine x_join (fun e w => ∃ (b7 : Nat) (p' : PgV), e = [(0, .func (.yield lo) #[] #[]), (1, .pointer (some ⟨b4, 0, none⟩)), (2, .pointer (some ⟨b3, 0, none⟩)), (3, .pointer (some ⟨b5, 0, none⟩)), (5, .slice (some ⟨tb, 0, none⟩) (st0.length + 1) tc), (6, .int .i64 (((st0.length + 1 : Nat) : Int) - 1)), (7, .pointer (some ⟨b7, 0, none⟩)), (8, .int .i64 0)] ∧ (V.rd n = some p'.pg ∧ p'.Sm) ∧ Sat G (row 3 1 (.slice (some ⟨tb, 0, none⟩) (st0.length + 1) tc) (st0.length + 1) (ints ((st0 ++ [(n, kn)]).map (·.1))) :: blk b7 p'.cells 75 :: pgO p' :: Jo k :: blk b4 (treeC t) 62 :: blk b3 [.pointer (some ⟨vq, 0, none⟩)] 28 :: blk b5 r.cells 64 :: vaA vq V :: L) w) ?_ ?_
  ·
   refine x_drawF [0, 1, 2, 3, 4] 5 [6, 7, 8, 9, 10, 11] 9 [5, 6, 7, 8, 10, 11] mixed (by kernel_rfl) ?_
   replace hw := hw.drawn (w.drawn + 1)
   refine lD (v := .pointer (some ⟨vq, 0, none⟩)) one_p_vault_Vault hw ?_
   refine z2 ?_
   refine x_idx1 rfl rfl trivial U_sl_int sz_int rfl rfl ⟨by omega, by omega⟩ ?_
   refine x_ld rfl rfl trivial rfl (Loads.one (v := .int .i64 n) one_int ((((htk _).of sF).at hw).at (by rw [e32]; exact hti))) ?_
   refine xl_nil ?_
   refine ⟨?_, ?_⟩
   ·
    refine x_call rfl rfl trivial cal_vault_Vault_Read rfl (ct_vaA_Read (n := n) (hw.b [vaA vq V]) hok) (by kernel_rfl) (fun w v29 hv => ?_)
    obtain ⟨p', er, A, rfl, hone, hcs, hw⟩ := hv
    obtain ⟨hrd', rfl, rfl, hps⟩ := hcs.resolve_left (fun h => by rw [h.1] at hrd; cases hrd)
    refine z3 ?_
    refine x_allocP rfl rfl trivial z_api_Page hw (fun w b7 hw q' hq => ?_) (fun w b7 hw => ?_)
    ·
     have hq := pend_mem (l := [4, 0]) (by kernel_rfl) hq
     simp only [List.mem_cons, List.not_mem_nil, or_false] at hq
     rcases hq with rfl | rfl
     ·exact chk_ld rfl rfl rfl (Loads.one (v := .int .i64 n) one_int ((((htk _).of sF).at hw).at (by rw [e32]; exact hti)))
     exact chk_ld rfl rfl rfl (Loads.blk1 (v := .pointer (some ⟨vq, 0, none⟩)) one_p_vault_Vault hw pK rfl)
    refine x_stN (cs := p'.cells) (l' := p'.cells) rfl trivial rfl rfl many_api_Page rfl hone hw pK (by simp [PgV.cells]) rfl (by kernel_rfl) (fun w hw => ?_)
    refine z2 ?_
    exact ⟨[(0, _), (1, _), (2, _), (3, _), (5, _), (6, _), (7, _), (8, _)], sB, b7, p', rfl, ⟨hrd', hps⟩, hw.b [row 3 1 (.slice (some ⟨tb, 0, none⟩) _ tc) _ _, blk b7 _ _, pgO p', Jo k, blk b4 _ _, blk b3 _ _, blk b5 _ _, vaA vq V]⟩
   refine x_allocP rfl rfl trivial z_api_Page hw (fun w b7 hw q' hq => ?_) (fun w b7 hw => ?_)
   ·
    have hq := pend_mem (l := [4, 0]) (by kernel_rfl) hq
    simp only [List.mem_cons, List.not_mem_nil, or_false] at hq
    rcases hq with rfl | rfl
    ·exact chk_ld rfl rfl rfl (Loads.one (v := .int .i64 n) one_int ((((htk _).of sF).at hw).at (by rw [e32]; exact hti)))
    exact chk_ld rfl rfl rfl (Loads.blk1 (v := .pointer (some ⟨vq, 0, none⟩)) one_p_vault_Vault hw pK rfl)
   refine x_call rfl rfl trivial cal_vault_Vault_Read rfl (ct_vaA_Read (n := n) (hw.b [vaA vq V]) hok) (by kernel_rfl) (fun w v29 hv => ?_)
   obtain ⟨p', er, A, rfl, hone, hcs, hw⟩ := hv
   obtain ⟨hrd', rfl, rfl, hps⟩ := hcs.resolve_left (fun h => by rw [h.1] at hrd; cases hrd)
   refine z3 ?_
   refine x_stN (cs := p'.cells) (l' := p'.cells) rfl trivial rfl rfl many_api_Page rfl hone hw pK (by simp [PgV.cells]) rfl (by kernel_rfl) (fun w hw => ?_)
   refine z2 ?_
   exact ⟨[(0, _), (1, _), (2, _), (3, _), (5, _), (6, _), (7, _), (8, _)], sB, b7, p', rfl, ⟨hrd', hps⟩, hw.b [row 3 1 (.slice (some ⟨tb, 0, none⟩) _ tc) _ _, blk b7 _ _, pgO p', Jo k, blk b4 _ _, blk b3 _ _, blk b5 _ _, vaA vq V]⟩
  clear hw
  rintro e w ⟨b7, p', rfl, ⟨hrd', hps⟩, hw⟩
  rw [hrd] at hrd'
  cases hrd'
  have hck := Va.rdok hok n _ hrd
  have hp8 := (check_items hck).1
  have hpl : p'.pg.items.length = p'.l.length := by simp [PgV.pg]
  obtain ⟨ia, ic, hsv⟩ := hps.form hw pK
  refine z4 ?_
  refine x_cutH rfl rfl trivial U_sl_int szs_int rfl (by simp) rfl ⟨by omega, by omega⟩ ?_
  rw [e32]
  have hw := row_cut hw (j := st0.length) (by omega)
  have hta2 : (ints ((st0 ++ [(n, kn)]).map (·.1))).take st0.length = ints (st0.map (·.1)) := by simp [ints]
  rw [hta2] at hw
  refine z8 ?_
  refine x_if rfl (fun h3 => ?_) (fun h3 => ?_)
  ·
   exact absurd rfl h3
  refine z5 ?_
  refine lD (v := .int .i64 p'.kind) one_int hw ?_
  refine z2 ?_
  refine x_if rfl (fun h4 => ?_) (fun h4 => ?_)
  ·
   obtain ⟨j, hkj, hir, hso, hnu⟩ := hindex h4
   have hwl := withinK_len p'.pg r.rg p'.pg.items.length
   refine z3 ?_
   refine lA (l := p'.cells) many_api_Page hw ?_
   refine lA (l := r.cells) many_api_Range hw ?_
   refine x_call rfl rfl trivial cal_walk_within rfl (ct_walk_within (p := p') (r := r) hw (pgParts_ok hps pK) (hr.of sF) (by omega) (fun i => hl n _ i hrd)) rfl (fun w v43 hv => ?_)
   have hw : Sat G (row 3 1 v43 (withinK p'.pg r.rg p'.l.length).length (ints (withinK p'.pg r.rg p'.l.length)) :: _) _ := hv
   rw [← hpl] at hw
   obtain ⟨wa, wc, rfl⟩ := row_form hw
   refine x_appT (m := st0.length) (rs := (withinK p'.pg r.rg p'.pg.items.length).map fun c => [Value.int .i64 c]) rfl rfl trivial U_sl_int sz_int by_int zs_int rfl rfl hw pK (((intsT _ _).of sF).at hw) (by rw [← ints_flat]; intro u hu; obtain ⟨c, _, rfl⟩ := List.mem_map.1 hu; rfl) (by rw [List.length_map]; simp only [maxLen]; omega) (by rw [List.length_map]; omega) rfl (fun w v44 hw => ?_)
   rw [List.length_map, ← ints_flat] at hw
   refine z3 ?_
   have hz := (hw.b [row 3 1 (.slice wa _ wc) _ _, blk b7 _ _, pgO p', Jo k, row 3 1 v44 _ _, blk b4 _ _, blk b3 _ _, blk b5 _ _, vaA vq V]).tail.tail.tail
   have hws := withinS_fst p'.pg r.rg j
   have e1 : ints (st0.map (·.1)) ++ ints (withinK p'.pg r.rg p'.pg.items.length) = ints ((st0 ++ withinS p'.pg r.rg j).map (·.1)) := by rw [List.map_append, hws]; simp [ints]
   have e2 : st0.length + (withinK p'.pg r.rg p'.pg.items.length).length = (st0 ++ withinS p'.pg r.rg j).length := by rw [← hws]; simp
   rw [e1, e2] at hz
   refine ⟨numS V.rd (st0 ++ withinS p'.pg r.rg j), by rw [numS_app]; omega, [(0, _), (1, _), (2, _), (3, _), (5, v44)], sB, st0 ++ withinS p'.pg r.rg j, k, v44, rfl, rfl, ⟨fun x hx => ?_, by rw [hfl2, hir, restI_app], hkl, by rw [numS_app]; omega⟩, hz⟩
   rcases List.mem_append.1 hx with hx | hx
   ·exact hst0 x hx
   exact hso x hx
  have hk1 : p'.pg.kind = 1 := hkind.resolve_right h4
  rw [hleaf hk1] at hfl2
  refine z4 ?_
  refine x_ld rfl rfl trivial rfl (Loads.blk1 (v := .slice ia p'.l.length ic) one_sl_api_Item hw pK (by rw [← hsv]; rfl)) ?_
  refine z4 ?_
  have hz := Sat.both_out (M := pgParts p') (hw.b [pgO p', Jo k, blk b7 _ _, row 3 1 (.slice (some ⟨tb, 0, none⟩) _ tc) _ _, blk b4 _ _, blk b3 _ _, blk b5 _ _, vaA vq V])
  simp only [pgParts, List.cons_append, List.nil_append, hsv] at hz
  have hz := (hz.b [row 5 1 p'.d _ _, Jo k, row 114 4 (.slice ia p'.l.length ic) p'.l.length (p'.l.map ItV.cells).flatten, both (p'.l.flatMap itParts)]).tail
  have e0 : p'.l.flatMap itParts = (p'.l.drop 0).flatMap itParts := by rw [List.drop_zero]
  rw [e0] at hz
  clear hw
  have hw := hz
  clear hz
  refine x_loop (fun m e w => ∃ (j k' : Nat), j ≤ p'.l.length ∧ m = p'.l.length - j ∧ e = [(0, .func (.yield lo) #[] #[]), (1, .pointer (some ⟨b4, 0, none⟩)), (2, .pointer (some ⟨b3, 0, none⟩)), (3, .pointer (some ⟨b5, 0, none⟩)), (5, .slice (some ⟨tb, 0, none⟩) st0.length tc), (46, .slice ia p'.l.length ic), (47, .int .i64 p'.l.length), (48, .int .i64 j)] ∧ (its.drop k' = ((p'.pg.items.drop j).filter fun y => decide (hasR r.rg y.key)) ++ restI V.rd r.rg st0 ∧ k' ≤ its.length) ∧ Sat G (Jo k' :: row 114 4 (.slice ia p'.l.length ic) p'.l.length (p'.l.map ItV.cells).flatten :: both ((p'.l.drop j).flatMap itParts) :: blk b7 p'.cells 75 :: row 3 1 (.slice (some ⟨tb, 0, none⟩) st0.length tc) st0.length (ints (st0.map (·.1))) :: blk b4 (treeC t) 62 :: blk b3 [.pointer (some ⟨vq, 0, none⟩)] 28 :: blk b5 r.cells 64 :: vaA vq V :: L) w)
   (m := p'.l.length) (e₀ := [(0, .func (.yield lo) #[] #[]), (1, .pointer (some ⟨b4, 0, none⟩)), (2, .pointer (some ⟨b3, 0, none⟩)), (3, .pointer (some ⟨b5, 0, none⟩)), (5, .slice (some ⟨tb, 0, none⟩) st0.length tc), (46, .slice ia p'.l.length ic), (47, .int .i64 p'.l.length), (48, .int .i64 (0 : Nat))]) sB
   ⟨0, k, Nat.zero_le _, rfl, rfl, ⟨hfl2, hkl⟩, hw⟩ ?_
  rintro m e w ⟨j, k', hj, rfl, rfl, ⟨hfj, hkj⟩, hw⟩
  refine z5 ?_
  refine x_if rfl (fun h5 => ?_) (fun h5 => ?_)
  ·
   have hjl : j < p'.l.length := by omega
   obtain ⟨x, hx⟩ : ∃ x, p'.l[j]? = some x := ⟨_, List.getElem?_eq_getElem hjl⟩
   have hxr : (p'.l.map ItV.cells)[j]? = some x.cells := by rw [List.getElem?_map, hx]; rfl
   have hxi : p'.pg.items[j]? = some x.it := by show (p'.l.map ItV.it)[_]? = _; rw [List.getElem?_map, hx]; rfl
   have hxs := hps.it x (List.mem_of_getElem? hx)
   have hxo : ∀ R, x.Ok (row 5 1 x.kv x.it.key.length (bys x.it.key) :: row 5 1 x.vv x.it.value.length (bys x.it.value) :: R) := fun R => ⟨rowB rfl .here, rowB rfl (.there .here), hxs.1, hxs.2⟩
   have hil : ∀ R, Knows (row 114 4 (.slice ia p'.l.length ic) p'.l.length (p'.l.map ItV.cells).flatten :: R) (SlT 4 (.slice ia p'.l.length ic) (p'.l.map ItV.cells)) := fun R => (SlT.row (by simp) (fun r hr => by obtain ⟨x, -, rfl⟩ := List.mem_map.1 hr; rfl)).head R
   rw [drop_cons hx, List.flatMap_cons] at hw
   have hw := Sat.both_split (M := itParts x) (hw.b [both (itParts x ++ _)])
   simp only [itParts, List.cons_append, List.nil_append] at hw
   obtain ⟨xa, xc, xa2, xc2, hxk, hxv, hxc⟩ := (hxo _).form hw
   obtain ⟨ib, io, hia⟩ := (((hil _).of sF).at hw).nn (by rw [List.length_map]; omega)
   rw [drop_cons hxi, List.filter_cons] at hfj
   cases hia
   refine z5 ?_
   refine x_idx rfl rfl trivial U_sl_api_Item sz_api_Item rfl rfl ⟨by omega, by omega⟩ ?_
   refine x_ld rfl rfl trivial rfl (Loads.many (cs := x.cells) many_api_Item rfl (by have h := (((hil _).of sF).at hw).at hxr; rw [Int.toNat_natCast]; exact h)) ?_
   refine x_alloc rfl rfl trivial z_api_Item hw rfl (fun w b10 hw => ?_)
   refine x_stN (cs := x.cells) (l' := x.cells) rfl trivial rfl rfl many_api_Item rfl (by rw [hxc]; intro u hu; simp at hu; rcases hu with rfl | rfl | rfl | rfl <;> rfl) hw pK (by simp [ItV.cells]) rfl rfl (fun w hw => ?_)
   refine z3 ?_
   refine lA (l := r.cells) many_api_Range hw ?_
   refine z1 ?_
   refine lD (v := x.kv) one_sl_uint8 hw ?_
   refine x_call rfl rfl trivial cal_span_Has rfl (ct_span_Has (r := r) (k := x.it.key) hw (hr.of sF) ((hxo _).k.of sF)) rfl (fun w v55 hv => ?_)
   obtain ⟨rfl, hw⟩ := hv
   refine z1 ?_
   refine xl_split (d := 56) rfl (fun h6 => ?_) (fun h6 => ?_)
   ·
    rw [if_pos (decide_eq_true h6), List.cons_append] at hfj
    have hik : its[k']? = some x.it := by rw [← List.head?_drop, hfj]; rfl
    have hkk : k' < its.length := (List.getElem?_eq_some_iff.1 hik).1
    have hfn : its.drop (k' + 1) = ((p'.pg.items.drop (j + 1)).filter fun y => decide (hasR r.rg y.key)) ++ restI V.rd r.rg st0 := by
     rw [drop_cons hik] at hfj
     exact (List.cons.inj hfj).2
    refine z1 ?_
    refine lA (l := x.cells) many_api_Item hw ?_
    have hz : Sat G (Jo k' :: (itParts x ++ (blk b10 x.cells 114 :: both ((p'.l.drop (j + 1)).flatMap itParts) :: row 114 4 (.slice (some ⟨ib, io, none⟩) p'.l.length ic) p'.l.length (p'.l.map ItV.cells).flatten :: blk b7 p'.cells 75 :: row 3 1 (.slice (some ⟨tb, 0, none⟩) st0.length tc) st0.length (ints (st0.map (·.1))) :: blk b4 (treeC t) 62 :: blk b3 [.pointer (some ⟨vq, 0, none⟩)] 28 :: blk b5 r.cells 64 :: vaA vq V :: L))) w := hw.b [Jo k', row 5 1 x.kv _ _, row 5 1 x.vv _ _]
    have hpre : ItPre vq V its k' [.agg x.cells.toArray] (itParts x) (blk b10 x.cells 114 :: both ((p'.l.drop (j + 1)).flatMap itParts) :: row 114 4 (.slice (some ⟨ib, io, none⟩) p'.l.length ic) p'.l.length (p'.l.map ItV.cells).flatten :: blk b7 p'.cells 75 :: row 3 1 (.slice (some ⟨tb, 0, none⟩) st0.length tc) st0.length (ints (st0.map (·.1))) :: blk b4 (treeC t) 62 :: blk b3 [.pointer (some ⟨vq, 0, none⟩)] 28 :: blk b5 r.cells 64 :: vaA vq V :: L) := ⟨x, blk b10 x.cells 114 :: both ((p'.l.drop (j + 1)).flatMap itParts) :: row 114 4 (.slice (some ⟨ib, io, none⟩) p'.l.length ic) p'.l.length (p'.l.map ItV.cells).flatten :: blk b7 p'.cells 75 :: row 3 1 (.slice (some ⟨tb, 0, none⟩) st0.length tc) st0.length (ints (st0.map (·.1))) :: blk b4 (treeC t) 62 :: blk b3 [.pointer (some ⟨vq, 0, none⟩)] 28 :: blk b5 r.cells 64 :: L, hik, rfl, rfl, hxs.1, hxs.2, pK⟩
    refine x_yield rfl rfl ⟨_, rfl, rfl⟩ rfl rfl (hy k' _ _ _ w hkk hpre hz) rfl (fun w v59 hv => ?_)
    obtain ⟨bq, rfl, hb1, hb2⟩ := yield_or hv
    refine x_not rfl rfl ⟨_, rfl, rfl⟩ rfl ?_
    refine z2 ?_
    refine x_cond rfl (fun h7 => ?_) (fun h7 => ?_)
    ·
     refine z1 ?_
     exact end0 rfl rfl (.inr (by
 have hz := hb2 (by simpa using h7)
 have hz := hz.b [blk b10 _ _, both _, row 114 4 _ _ _, blk b7 _ _, row 3 1 (.slice (some ⟨tb, 0, none⟩) _ tc) _ _, Jx]
 exact hz.tail.tail.tail.tail.tail))
    refine z5 ?_
    have hz := hb1 (by simpa using h7)
    have hz := (hz.b [blk b10 _ _, Jo _, row 114 4 _ _ _, both _]).tail
    exact ⟨p'.l.length - (j + 1), by omega, [(0, _), (1, _), (2, _), (3, _), (5, _), (46, _), (47, _), (48, .int .i64 (j + 1 : Nat))], sB, j + 1, k' + 1, by omega, rfl, rfl, ⟨hfn, hkk⟩, hz⟩
   refine z6 ?_
   refine x_cond_false rfl ?_
   refine z5 ?_
   rw [if_neg (by simpa using h6)] at hfj
   exact ⟨p'.l.length - (j + 1), by omega, [(0, _), (1, _), (2, _), (3, _), (5, _), (46, _), (47, _), (48, .int .i64 (j + 1 : Nat))], sB, j + 1, k', by omega, rfl, rfl, ⟨hfj, hkj⟩, (hw.b [blk b10 _ _, row 5 1 x.kv _ _, row 5 1 x.vv _ _, Jo _, row 114 4 _ _ _, both _]).tail.tail.tail⟩
  refine z1 ?_
  have hje : j = p'.l.length := by omega
  rw [show p'.pg.items.drop j = [] from List.drop_eq_nil_of_le (by omega), List.filter_nil, List.nil_append] at hfj
  have hz := (hw.b [row 114 4 _ _ _, both _, blk b7 _ _, Jo k', row 3 1 (.slice (some ⟨tb, 0, none⟩) _ tc) _ _]).tail.tail.tail
  exact ⟨numS V.rd st0, by omega, [(0, _), (1, _), (2, _), (3, _), (5, _)], sB, st0, k', _, rfl, rfl, ⟨hst0, hfj, hkj, by omega⟩, hz⟩
 refine z1 ?_
 exact end0 rfl rfl (.inl (by
 have hz : st = [] := List.eq_nil_of_length_eq_zero (by omega)
 subst hz
 have hke : k = its.length := by
  have := congrArg List.length hfl
  rw [List.length_drop] at this
  simp [restI] at this
  omega
 subst hke
 exact (hw.b [row 3 1 (.slice ta _ tc) _ _]).tail))
end
abbrev paJ (vq b3 b8 : Nat) (V : Va) (its : List It) (k : Nat) : Assn := ex fun ol : List PrV => ex fun ov : Value => lift (ol.map PrV.pr = (its.take k).map (prT V.rd)) (both [blk b8 [ov] 58, row 66 2 ov ol.length (ol.map PrV.cells).flatten, both (ol.flatMap prParts), blk b3 [.pointer (some ⟨vq, 0, none⟩)] 28])
theorem paJ_in {G : Gh} {L : List Assn} {w : World} {vq b3 b8 : Nat} {V : Va} {its : List It} {k : Nat} {ol : List PrV} {ov : Value} (h : ol.map PrV.pr = (its.take k).map (prT V.rd))
  (hw : Sat G (blk b8 [ov] 58 :: row 66 2 ov ol.length (ol.map PrV.cells).flatten :: both (ol.flatMap prParts) :: blk b3 [.pointer (some ⟨vq, 0, none⟩)] 28 :: L) w) : Sat G (paJ vq b3 b8 V its k :: L) w :=
 Sat.ex_in ol (Sat.ex_in ov (Sat.lift_in h (Sat.both_in (M := [_, _, _, _]) hw)))
theorem paJ_out {G : Gh} {L : List Assn} {w : World} {vq b3 b8 : Nat} {V : Va} {its : List It} {k : Nat} (hw : Sat G (paJ vq b3 b8 V its k :: L) w) : ∃ (ol : List PrV) (ov : Value), ol.map PrV.pr = (its.take k).map (prT V.rd) ∧ Sat G (blk b8 [ov] 58 :: row 66 2 ov ol.length (ol.map PrV.cells).flatten :: both (ol.flatMap prParts) :: blk b3 [.pointer (some ⟨vq, 0, none⟩)] 28 :: L) w := by
 obtain ⟨ol, hw⟩ := hw.ex_out
 obtain ⟨ov, hw⟩ := hw.ex_out
 obtain ⟨h, hw⟩ := hw.lift_out
 exact ⟨ol, ov, h, hw.both_out⟩
section
variable {G : Gh} {L R : List Assn} {w : World}
theorem ct_walk_pairs {vq kk : Nat} {V : Va} {t : Tr} {r : RgV} {its : List It} (hw : Sat G (vaA vq V :: L) w) (hok : V.Ok) (hs : t.root ≠ 0 → soundT V.rd kk t.root ∧ ∃ r', keysIn V.rd kk t.root r') (hits : its = if t.root = 0 then [] else itemsR V.rd r.rg (t.root, kk)) (hnum : t.root ≠ 0 → numT V.rd kk t.root ≤ 1000000000) (hl : ∀ n p i, V.rd n = some p → (meetR (ownR p i) r.rg).lo.length ≤ 24) (hr : r.Ok L) (hld : ∀ x ∈ its, (loadB V.rd x).1 = 0) (hle : its.length ≤ 1000000000) :
  Calls Tryz.prog 40 #[.pointer (some ⟨vq, 0, none⟩), .agg (treeC t).toArray, .agg r.cells.toArray] w (Ret fun u w' => ∃ (v : Value) (l : List PrV), u = .tuple #[v, .int .i64 0] ∧ l.map PrV.pr = its.map (prT V.rd) ∧ Sat G (row 66 2 v l.length (l.map PrV.cells).flatten :: both (l.flatMap prParts) :: vaA vq V :: L) w') := by
 refine calls_of_x (args := [_, _, _]) Tryz.func40 rfl Tryz.ntmps40 rfl rfl ?_
 refine z2 ?_
 refine x_box rfl rfl trivial rfl rfl hw rfl (fun w b3 hw => ?_)
 refine x_box rfl rfl trivial rfl rfl hw rfl (fun w b4 hw => ?_)
 refine x_box rfl rfl trivial rfl rfl hw rfl (fun w b5 hw => ?_)
 refine x_alloc rfl rfl trivial z_sl_api_Pair hw rfl (fun w b6 hw => ?_)
 refine x_alloc rfl rfl trivial z_api_Errno hw rfl (fun w b7 hw => ?_)
 refine z3 ?_
 refine x_alloc rfl rfl trivial z_sl_api_Pair hw rfl (fun w b8 hw => ?_)
 refine z4 ?_
 refine lD (v := .pointer (some ⟨vq, 0, none⟩)) one_p_vault_Vault hw ?_
 refine lA (l := treeC t) many_api_Tree hw ?_
 refine lA (l := r.cells) many_api_Range hw ?_
 refine x_call rfl rfl trivial cal_walk_items rfl (ct_walk_items (vq := vq) (t := t) (r := r) hw) rfl (fun w v15 hv => ?_)
 obtain ⟨c3, c4, c5, rfl, hw⟩ := hv
 refine z2 ?_
 have hw := row_nil (Sat.both_in (M := ([] : List PrV).flatMap prParts) hw) 66 2
 have hz := hw.b [blk b8 _ _, row 66 2 (.slice none 0 0) 0 [], both _, blk b3 _ _, blk c4 _ _, blk c3 _ _, blk c5 _ _, vaA vq V, blk b4 _ _, blk b5 _ _, blk b6 _ _, blk b7 _ _]
 clear hw
 have hw := paJ_in (V := V) (its := its) (k := 0) (ol := []) (ov := .slice none 0 0) rfl hz
 refine x_rangeG (e₀ := [(3, .pointer (some ⟨b3, 0, none⟩)), (6, .pointer (some ⟨b6, 0, none⟩)), (7, .pointer (some ⟨b7, 0, none⟩)), (8, .pointer (some ⟨b8, 0, none⟩))]) (fun k => paJ vq b3 b8 V its k) (fun _ => False) [] rfl cal_walk_items_1 rfl sG rfl hw (fun k args gift M h => by obtain ⟨x, R, _, rfl, _⟩ := h; rfl) (it_items (w := w) hok hs hits hnum hl (hr.of sF)) ?_ ?_ ?_ ?_
 ·
  clear hw
  intro l D1 o k args gift M w hk hpre hw
  obtain ⟨x, R, hx, rfl, rfl, hsk, hsv, hpk⟩ := hpre
  have hxm := List.mem_of_getElem? hx
  have hxs := hld _ hxm
  have hw : Sat G (paJ vq b3 b8 V its k :: pt l o :: dblk D1 :: row 5 1 x.kv x.it.key.length (bys x.it.key) :: row 5 1 x.vv x.it.value.length (bys x.it.value) :: M) w := hw
  have hw := hw.pick (.there (.there (.there (.there (.there hpk)))))
  have hxo : ∀ R, x.Ok (row 5 1 x.kv x.it.key.length (bys x.it.key) :: row 5 1 x.vv x.it.value.length (bys x.it.value) :: R) := fun R => ⟨rowB rfl .here, rowB rfl (.there .here), hsk, hsv⟩
  obtain ⟨ol, ov, hol, hw⟩ := paJ_out (hw.b [paJ vq b3 b8 V its k, vaA vq V, pt l _, dblk D1])
  have holn := congrArg List.length hol
  rw [List.length_map, List.length_map, List.length_take, Nat.min_eq_left (Nat.le_of_lt hk)] at holn
  have hw := hw.b [vaA vq V, blk b8 _ _, row 66 2 _ _ _, both _, blk b3 _ _, pt l _, dblk D1]
  obtain ⟨oa, oc, rfl⟩ := row_form (hw.pick (A := row 66 2 ov _ _) pK)
  obtain ⟨xa, xc, xa2, xc2, hxk, hxv, hxc⟩ := (hxo _).form (hw.b [row 5 1 x.kv _ _, row 5 1 x.vv _ _])
  refine z1 ?_
  refine x_alloc rfl rfl trivial z_api_Item hw rfl (fun w b9 hw => ?_)
  refine x_stN (cs := x.cells) (l' := x.cells) rfl trivial rfl rfl many_api_Item rfl (by rw [hxc]; intro u hu; simp at hu; rcases hu with rfl | rfl | rfl | rfl <;> rfl) hw pK (by simp [ItV.cells]) rfl rfl (fun w hw => ?_)
  refine xl_nil ?_
  refine ⟨_, hw.pick (A := pt l o) pK, fun o' w hw => ?_⟩
  refine z3 ?_
  refine lD (v := .pointer (some ⟨vq, 0, none⟩)) one_p_vault_Vault hw ?_
  refine lA (l := x.cells) many_api_Item hw ?_
  refine x_call rfl rfl trivial cal_blob_Load rfl (ct_blob_Load (x := x) (hw.b [vaA vq V]) hok ((hxo _).of sF)) rfl (fun w v20 hv => ?_)
  obtain ⟨u, rfl, hw⟩ := hv
  rw [hxs]
  obtain ⟨ua, uc, rfl⟩ := row_form hw
  refine z12 ?_
  refine x_if rfl (fun h1 => ?_) (fun h1 => ?_)
  ·
   exact absurd rfl h1
  refine z2 ?_
  refine lD (v := .slice oa ol.length oc) one_sl_api_Pair hw ?_
  refine z1 ?_
  refine x_ld rfl rfl trivial rfl (Loads.blk1 (v := .slice xa x.it.key.length xc) one_sl_uint8 hw pK (by rw [← hxk]; rfl)) ?_
  refine z1 ?_
  refine x_build (v := .agg #[.slice xa x.it.key.length xc, .slice ua (loadB V.rd x.it).2.length uc]) rfl rfl trivial rfl (fun w => by kernel_rfl) ?_
  refine x_bs1 (cs := [.slice xa x.it.key.length xc, .slice ua (loadB V.rd x.it).2.length uc]) rfl rfl trivial U_sl_api_Pair sz_api_Pair zs_api_Pair (by decide) rfl rfl rfl hw rfl (fun w b31 hw => ?_)
  refine x_app (m := ol.length) (k := 1) (news := [.slice xa x.it.key.length xc, .slice ua (loadB V.rd x.it).2.length uc]) rfl rfl trivial U_sl_api_Pair sz_api_Pair by_api_Pair zs_api_Pair rfl rfl hw pK (Rd.blk0 hw pK) rfl (by
    intro z hz; simp only [List.mem_cons, List.not_mem_nil, or_false] at hz
    rcases hz with rfl | rfl <;> rfl) (by simp only [maxLen]; omega) (by omega) rfl (fun w v32 hw => ?_)
  obtain ⟨na, nc, rfl⟩ := row_form hw
  refine x_st1 (l' := [.slice na (ol.length + 1) nc]) rfl trivial rfl rfl one_sl_api_Pair rfl hw pK rfl rfl rfl (fun w hw => ?_)
  refine xl_nil ?_
  rw [hxk] at hw
  have hz := (hw.b [blk b31 _ _, blk b9 _ _, row 5 1 x.vv _ _, both (ol.flatMap prParts), row 5 1 (.slice xa _ xc) _ _, row 5 1 (.slice ua (loadB V.rd x.it).2.length uc) _ _, blk b8 _ _, row 66 2 _ _ _]).tail.tail.tail
  have hz := Sat.both_snoc (Sat.both_snoc hz)
  have e1 : (ol.flatMap prParts ++ [row 5 1 (.slice xa x.it.key.length xc) x.it.key.length (bys x.it.key)]) ++ [row 5 1 (.slice ua (loadB V.rd x.it).2.length uc) (loadB V.rd x.it).2.length (bys (loadB V.rd x.it).2)] = (ol ++ [(⟨prT V.rd x.it, .slice xa x.it.key.length xc, .slice ua (loadB V.rd x.it).2.length uc⟩ : PrV)]).flatMap prParts := by simp [prParts, prT]
  have e2 : (ol.map PrV.cells).flatten ++ [.slice xa x.it.key.length xc, .slice ua (loadB V.rd x.it).2.length uc] = ((ol ++ [(⟨prT V.rd x.it, .slice xa x.it.key.length xc, .slice ua (loadB V.rd x.it).2.length uc⟩ : PrV)]).map PrV.cells).flatten := by simp [PrV.cells]
  have e3 : ol.length + 1 = (ol ++ [(⟨prT V.rd x.it, .slice xa x.it.key.length xc, .slice ua (loadB V.rd x.it).2.length uc⟩ : PrV)]).length := by simp
  rw [e1, e2, e3] at hz
  have hz := hz.b [vaA vq V, blk b8 _ _, row 66 2 _ _ _, both _, blk b3 _ _, pt l _, dblk D1]
  have hz := Sat.unpick hz (.there (.there (.there (.there (.there (.there hpk))))))
  have hz := paJ_in (V := V) (its := its) (k := k + 1) (by rw [take_step hx, List.map_append, List.map_append, hol]; rfl) hz
  exact hz
 ·
  clear hw
  intro D1 w hw
  obtain ⟨ol, ov, hol, hw⟩ := paJ_out hw
  rw [List.take_length] at hol
  obtain ⟨oa, oc, rfl⟩ := row_form (hw.pick (A := row 66 2 ov _ _) pK)
  refine z2 ?_
  refine lD (v := .slice oa ol.length oc) one_sl_api_Pair hw ?_
  refine x_st1 rfl trivial rfl rfl one_sl_api_Pair rfl hw pK rfl rfl rfl (fun w hw => ?_)
  refine x_st1 rfl trivial rfl rfl one_api_Errno rfl hw pK rfl rfl rfl (fun w hw => ?_)
  refine z2 ?_
  refine bodyEnd_leave rfl ?_
  refine leave_dblk hw pK (fun w hw => ?_)
  exact leave2 rfl ⟨_, rfl, (Loads.blk1 one_sl_api_Pair hw pK rfl)⟩ ⟨_, rfl, (Loads.blk1 one_api_Errno hw pK rfl)⟩ ⟨.slice oa ol.length oc, ol, rfl, hol, (hw.b [blk b8 _ _, blk b3 _ _, blk c4 _ _, blk c3 _ _, blk c5 _ _, blk b4 _ _, blk b5 _ _, blk b6 _ _, blk b7 _ _]).tail.tail.tail.tail.tail.tail.tail.tail.tail⟩
 ·
  clear hw; intro D w hw; exact (assn_out hw).elim fun _ h => h.1.elim
 intro id A hA; cases hA
end
end Go.Proofs.YteifbglognfgdaaGreatDoor.X
