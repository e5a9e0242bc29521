/- The ground and the walks of this claim, part 2: XPage6 XPage7 XSpan XFork XSpan2 XSpan3 XRuns XRuns2 XRuns3 XRuns4 XRuns5 XPool XPool2 XPool3 XPool4 XVault XVault2 XVault3 XRef11 XRef11b XInts XTrees XTrees2 XTrees3 XRows XWalk XPo XPo2 XPo3 XPo3b XPo4 XVa XVa2 XVa3 XVa4 XVa5 XVa6. -/
import Derived.Test.YtjbkgbilbnccnaaGreatDoorY1
namespace Go.Proofs.YtjbkgbilbnccnaaGreatDoor.X
open _root_.Go.Proofs.Tryz _root_.Go.Proofs.YtjbkgbilbnccnaaGreatDoor.Tryz
set_option linter.unusedVariables false
set_option linter.unusedSimpArgs false
set_option maxRecDepth 20000
set_option maxHeartbeats 8000000
theorem ij {q : Prop} [Decidable q] {e : Int} (h : e ≠ 0) : vA q e = 0 ↔ q := by unfold vA; by_cases hq : q <;> simp [hq, h]
theorem dF {a b : Int} : fst a b = 0 ↔ a = 0 /\ b = 0 := by unfold fst; by_cases h : a = 0 <;> simp [h]
theorem bT.Ok.form {G : Gh} {w : World} {L : List aw} {p : bT} (h : p.Ok L) (hw : an G L w) : ∃ a1 c1 a2 c2, p.s = .slice a1 p.l.length c1 /\ p.d = .slice a2 p.data.length c2 /\ p.cells = [iQ p.kind, iQ p.level, .slice a1 p.l.length c1, .slice a2 p.data.length c2, iQ p.next] := by
 obtain ⟨a1, c1, h1, -, -⟩ := (h.its.sl.at hw).form;obtain ⟨a2, c2, h2⟩ := (h.data.at hw).form;rw [bX] at h1;exact ⟨a1, c1, a2, c2, h1, h2, by simp only [bT.cells, h1, h2]⟩
theorem bO.Ok.form {G : Gh} {w : World} {L : List aw} {x : bO} (h : x.Ok L) (hw : an G L w) : ∃ a1 c1 a2 c2, x.kv = .slice a1 x.it.key.length c1 /\ x.vv = .slice a2 x.it.value.length c2 /\ x.cells = [.slice a1 x.it.key.length c1, .slice a2 x.it.value.length c2, iQ x.it.child, iQ x.it.size] := by
 obtain ⟨a1, c1, h1⟩ := (h.k.at hw).form;obtain ⟨a2, c2, h2⟩ := (h.v.at hw).form;exact ⟨a1, c1, a2, c2, h1, h2, by simp only [bO.cells, h1, h2]⟩
def vI (kind : Int) (l : List It) : List Int := l.filterMap fun x => if kind = 2 \/ (kind = 1 /\ x.child ≠ 0) then some x.child else none
theorem Oi (kind : Int) (l : List It) (x : It) : vI kind (l ++ [x]) = vI kind l ++ (if kind = 2 \/ (kind = 1 /\ x.child ≠ 0) then [x.child] else []) := by
 unfold vI;rw [List.filterMap_append]
 by_cases h : kind = 2 \/ (kind = 1 /\ x.child ≠ 0) <;> simp [h]
theorem I9 (kind : Int) (l : List It) : (vI kind l).length <= l.length := List.length_filterMap_le _ _
theorem Mb (p : bT) : cL p.pg = vI p.kind (p.l.map bO.it) ++ (if p.kind = 3 /\ p.next ≠ 0 then [p.next] else []) := rfl
theorem Q3 {p : bT} {k : Nat} {x : bO} (hx : p.l[k]? = some x) : (p.l.map bO.it).take (k + 1) = (p.l.map bO.it).take k ++ [x.it] := by
 rw [Rf, dg, hx]; rfl
theorem Te {p : bT} {k : Nat} (h : p.l.length <= k) : (p.l.map bO.it).take k = p.l.map bO.it := oF (by rw [bX]; omega)
theorem rX (l : List Int) (n : Int) : bg (l ++ [n]) = bg l ++ [iQ n] := by simp [bg]
section
variable {G : Gh} {L R : List aw} {w : World}
theorem pC {p : bT} (hw : an G L w) (hp : p.Ok L) :
  Calls prog 137 #[gQ p.cells] w (bU fun r w' => an G (row 3 1 r (cL p.pg).length (bg (cL p.pg)) :: L) w') := by
 have SA := hp.its.len;have m8 := hp.its;have iv := hp.its.sl;obtain ⟨a1, c1, a2, c2, h1, h2, gN⟩ := hp.form hw;rw [h1] at iv;rw [gN];clear h1 h2;refine ad (args := [_]) func137 rfl ntmps137 rfl rfl ?_;refine z2 ?_;refine a9 rfl rfl rfl hw rfl fun w b1 hw => ?_;refine mN ?_;refine lD az hw ?_;refine z4 ?_;have hw := bI hw 3 1;refine bF (fun m e w => ∃ (k : Nat) (u : Value), k <= p.l.length /\ m = p.l.length - k /\ e = [(1, pQ b1), (3, u), (7, .slice a1 p.l.length c1), (8, iQ p.l.length), (9, iQ k)] /\ an G (row 3 1 u (vI p.kind ((p.l.map bO.it).take k)).length (bg (vI p.kind ((p.l.map bO.it).take k))) :: ah b1 [iQ p.kind, iQ p.level, .slice a1 p.l.length c1, .slice a2 p.data.length c2, iQ p.next] 104 :: L) w)
  (m := p.l.length) sB
  ⟨0, _, dy _, rfl, rfl, hw⟩ ?_
 rintro m e w ⟨k, u, hk, rfl, rfl, hw⟩;refine z5 ?_;refine aE rfl (fun h1 => ?_) fun h1 => ?_
 ·
  have gK : k < p.l.length := oM;obtain ⟨x, hx⟩ : ∃ x, p.l[k]? = some x := ⟨_, dm gK⟩;have me := m8.it x (gl hx);have tU : (p.l.map bO.cells)[k]? = some x.cells := by rw [dg, hx]; rfl
  obtain ⟨b, o, rfl⟩ := ((iv.of sF).at hw).nn (by rw [bX]; omega);have Ax : (vI p.kind ((p.l.map bO.it).take k)).length <= k := Q9 (I9 _ _) (by rw [fB]; omega);have Xa := Oi p.kind ((p.l.map bO.it).take k) x.it;rw [<-Q3 hx] at Xa;refine z5 ?_;refine eY rfl aJ bf rfl rfl ⟨oM, oM⟩ ?_;refine bt rfl rfl (ar.many aD rfl (by rw [ez]; exact ((iv.of sF).at hw).at tU)) ?_;refine aF rfl eM hw rfl fun w b5 hw => ?_;refine aT (cs := x.cells) (l' := x.cells) rfl tV rfl rfl aD rfl (ln (me.of sF) hw) hw pK sM rfl rfl fun w hw => ?_;refine z4 ?_;refine lD ag hw ?_;refine z2 ?_;refine cu (l1 := [4, 5, 6, 7, 8, 9, 10, 11, 12]) (l2 := []) rfl (d := 25) (p.kind = 2 \/ (p.kind = 1 /\ x.it.child ≠ 0)) rfl ?_ ?_
  ·
   refine ay (d := 16) rfl (fun h2 => ?_) fun h2 => ?_
   ·
    refine mN ?_;refine cQ ?_;exact dC
   refine z1 ?_;refine lD ag hw ?_;refine z2 ?_;refine ay (d := 20) rfl (fun h3 => ?_) fun h3 => ?_
   ·
    refine z1 ?_;refine lD ag hw ?_;refine z1 ?_;refine sO rfl rfl rfl rfl ?_;refine z2 ?_;refine cQ ?_;exact dC
   refine z3 ?_;refine qJ rfl rfl rfl rfl ?_;refine z2 ?_;refine cQ ?_;exact dC
  refine aC ?_;refine aE rfl (fun h4 => ?_) fun h4 => ?_
  ·
   refine z3 ?_;refine lD ag hw ?_;refine fG (cs := [iQ x.it.child]) rfl bp cm gZ dM rfl rfl rfl hw rfl fun w b29 hw => ?_;refine fH (m := (vI p.kind ((p.l.map bO.it).take k)).length) (k := 1) (news := [iQ x.it.child]) rfl bp cm ni gZ rfl rfl hw pK (Rd.jE hw pK) rfl (by intro z hz; simp at hz; subst hz; rfl) mL oM rfl (fun w v30 hw => ?_);refine z6 ?_;refine ⟨p.l.length - (k + 1), oM, [(1, _), (3, _), (7, _), (8, _), (9, iQ (k + 1 : Nat))], sB, k + 1, _, oM, rfl, rfl, ?_⟩;rw [Xa, ao h4, rX, de, mG];exact (hw.b [ah b29 _ _, ah b5 _ _, row 3 1 v30 _ _, ah b1 _ _]).tail.tail
  refine z5 ?_;refine ⟨p.l.length - (k + 1), oM, [(1, _), (3, _), (7, _), (8, _), (9, iQ (k + 1 : Nat))], sB, k + 1, _, oM, rfl, rfl, ?_⟩;rw [Xa, aj h4, pz];exact (hw.b [ah b5 _ _, row 3 1 u _ _, ah b1 _ _]).tail
 rw [Te oM] at hw;have Ax : (vI p.kind (p.l.map bO.it)).length <= p.l.length := Q9 (I9 _ _) (by rw [bX]; omega);refine z5 ?_;refine lD ag hw ?_;refine z2 ?_;refine cu (l1 := [4, 5, 6, 7]) (l2 := []) rfl (d := 39) (p.kind = 3 /\ p.next ≠ 0) rfl ?_ ?_
 ·
  refine ay (d := 35) rfl (fun h5 => ?_) fun h5 => ?_
  ·
   refine z1 ?_;refine lD ag hw ?_;refine z3 ?_;refine cQ ?_;exact dC
  refine z5 ?_;refine cQ ?_;exact dC
 refine aC ?_;refine aE rfl (fun h6 => ?_) fun h6 => ?_
 ·
  refine z3 ?_;refine lD ag hw ?_;refine fG (cs := [iQ p.next]) rfl bp cm gZ dM rfl rfl rfl hw rfl fun w b43 hw => ?_;refine fH (m := (vI p.kind (p.l.map bO.it)).length) (k := 1) (news := [iQ p.next]) rfl bp cm ni gZ rfl rfl hw pK (Rd.jE hw pK) rfl (by intro z hz; simp at hz; subst hz; rfl) mL oM rfl (fun w v44 hw => ?_);refine z8 ?_;exact aK rfl rfl rfl (by
 rw [Mb, ao h6, rX, de, mG];exact (hw.b [ah b43 _ _, ah b1 _ _, row 3 1 v44 _ _]).tail.tail)
 refine z7 ?_;exact aK rfl rfl rfl (by
 rw [Mb, aj h6, pz];exact (hw.b [ah b1 _ _, row 3 1 u _ _]).tail)
end

section
variable {P : Program} {n : Nat} {ops : Array Oper} {dr : Bool} {done r : List Nat} {K : fm -> World -> Prop} {e : fm} {w : World} {i d : Nat} {t s s' c : TypeId} {p : String} {af : Array Edge} {g : Option (Nat × Bool)} {x y : Operand} {G : Gh} {L R : List aw} {T : TypeId}
theorem aaW {b o dl dc : Nat} {v : Value} {l : bW} {cur l' : List Value} (ho : ops[i]? = some ⟨some d, .call ⟨.builtin .copy, #[x, y], #[s, s']⟩, t, p, af, g⟩) (hs : P.underlying s = some (.slice c)) (uS : (P.info? c).map (·.size) = some 1)
  (hx : ev e x = some (.slice (some ⟨b, o, none⟩) dl dc)) (hy : ev e y = some v) (hw : an G L w) (hp : cG (ah b cur T) L R) (hr : dP v l w) (hl : l.length <= dl) (rq : o + l.length <= cur.length)
  (Ke : cur.take o ++ cD l ++ cur.drop (o + l.length) = l') (i' : gU P ops dr done i = [])
  (h : ∀ w', an G (ah b l' T :: R) w' -> XL P n ops dr (i :: done) r K ((d, iQ l.length) :: e) w') (hd : Nat.blt d n = true := by exact rfl) (hg : Gd ops e g := by first | trivial | exact ⟨_, rfl, rfl⟩) : XL P n ops dr done (i :: r) K e w := by
 rcases hr with ⟨⟨a, rfl⟩, rfl⟩ | ⟨b', o', cap, rfl, hc, hR⟩
 ·have K2 : l' = cur := by rw [<-Ke]; show cur.take o ++ [] ++ cur.drop (o + 0) = cur; simp
  subst K2;have PV := run_copy_none (P := P) w s s' t c (some ⟨b, o, none⟩) a dl dc 0 0 hs uS (Nat.zero_min _);refine fU ho (by simpa [cy] using hd) hg (ρ := rh e) (by intro z hZ; simp [Op.operands, Call.operands] at hZ; exact CX hx hy hZ) rfl (v := iQ 0) (w' := w) ?_ (fb i') (h _ (hw.pick hp));simp only [execOp, resolve, invoke, builtin, Sem.run_bind, Sem.run_pure, Result.andThen_ok, jM, cH, gE, bj hx, bj hy, PV];rfl
 have hb : (cD l).length = l.length := cN l;refine VR (cs := cD l) (l' := l') (hd := hd) (hg := hg) ho hs uS hx hy hw hp hR (by rw [hb]; exact (EW hl).symm) (ig _) (by rw [hb]; exact rq) (by rw [hb]; exact Ke) i' (fun w' nL => ?_);rw [hb];exact h w' nL
end
structure Rg where
 lo : bW
 hi : bW
 Hy : Bool
structure yI where
 rg : Rg
 lv : Value
 hv : Value
def yI.cells (r : yI) : List Value := [r.lv, r.hv, .bool r.rg.Hy]
structure yI.Ok (L : List aw) (r : yI) : Prop where
 lo : aG L (dP r.lv r.rg.lo)
 hi : aG L (dP r.hv r.rg.hi)
 sl : bP r.rg.lo
 sh : bP r.rg.hi
theorem yI.Ok.of {L L' : List aw} {r : yI} (h : r.Ok L) (s : Sn L L') : r.Ok L' := ⟨h.lo.of s, h.hi.of s, h.sl, h.sh⟩
def sW (r : yI) : List aw := [row 5 1 r.lv r.rg.lo.length (cD r.rg.lo), row 5 1 r.hv r.rg.hi.length (cD r.rg.hi)]
theorem ES {r : yI} {L R : List aw} (h1 : bP r.rg.lo) (h2 : bP r.rg.hi) (p1 : cG (row 5 1 r.lv r.rg.lo.length (cD r.rg.lo)) L R) {R' : List aw} (p2 : cG (row 5 1 r.hv r.rg.hi.length (cD r.rg.hi)) L R') : r.Ok L := ⟨ve rfl p1, ve rfl p2, h1, h2⟩
def ma (k : bW) : Prop := 1 <= k.length /\ k.length <= 24
instance (k : bW) : Decidable (ma k) := by unfold ma; infer_instance
def nO (r : Rg) (k : bW) : Prop := ma k /\ 0 <= dI k r.lo /\ (r.Hy = true \/ dI k r.hi < 0)
instance (r : Rg) (k : bW) : Decidable (nO r k) := by unfold nO; infer_instance
def g9 (a b : bW) : bW := if dI a b < 0 then b else a
def xw (a b : bW) : bW := if 0 < dI a b then b else a
def ga (a b : Rg) : Rg := ⟨g9 a.lo b.lo, if a.Hy = true then (if b.Hy = true then [] else b.hi) else if b.Hy = true then a.hi else xw a.hi b.hi, a.Hy && b.Hy⟩
theorem Oe {a b : bW} (ha : bP a) (hb : bP b) : bP (g9 a b) := by unfold g9; split <;> assumption
theorem Od {a b : bW} (ha : bP a) (hb : bP b) : bP (xw a b) := by unfold xw; split <;> assumption
theorem mW : bP [] := dy _
theorem Fe {a b : Rg} (h1 : bP a.lo) (h2 : bP a.hi) (h3 : bP b.lo) (h4 : bP b.hi) : bP (ga a b).lo /\ bP (ga a b).hi := by
 refine ⟨Oe h1 h3, ?_⟩
 show bP (if a.Hy = true then (if b.Hy = true then [] else b.hi) else if b.Hy = true then a.hi else xw a.hi b.hi)
 repeat' split
 all_goals first | exact mW | exact h4 | exact h2 | exact Od h2 h4
theorem Cz (b : Bool) : ∃ q : Prop, ∃ _ : Decidable q, b = decide q /\ (b = true ↔ q) := ⟨b = true, inferInstance, by simp, Iff.rfl⟩
section
variable {G : Gh} {L R : List aw} {w : World}
theorem yt {v : Value} {l : bW} (hw : an G L w) (kl : aG L (dP v l)) : Calls prog 278 #[v] w (bU fun r w' => r = .bool (decide (ma l)) /\ an G L w') := by
 obtain ⟨a, cap, rfl⟩ := (kl.at hw).form;refine ad (args := [_]) func278 rfl ntmps278 rfl rfl ?_;refine mN ?_;refine cu (l1 := [4, 5, 6, 7]) (l2 := [8]) rfl (d := 10) (ma l) rfl ?_ ?_
 ·
  refine ay (d := 6) rfl (fun h1 => ?_) fun h1 => ?_
  ·
   refine z5 ?_;refine cQ ?_;unfold ma; exact dC
  refine z5 ?_;refine cQ ?_;unfold ma; exact dC
 refine z3 ?_;exact aK rfl rfl rfl ⟨rfl, hw⟩
theorem wg {r : yI} {v : Value} {k : bW} (hw : an G L w) (hr : r.Ok L) (kl : aG L (dP v k)) :
  Calls prog 213 #[gQ r.cells, v] w (bU fun u w' => u = .bool (decide (nO r.rg k)) /\ an G L w') := by
 have Jf := hr.lo;have hhi := hr.hi;obtain ⟨q, dq, hq1, WO⟩ := Cz r.rg.Hy;have gN : r.cells = [r.lv, r.hv, .bool (decide q)] := by rw [<-hq1]; rfl
 rw [gN];refine ad (args := [_, _]) func213 rfl ntmps213 rfl rfl ?_;refine z2 ?_;refine a9 rfl rfl rfl hw rfl fun w b2 hw => ?_;refine z5 ?_;refine al rfl wH rfl (yt hw (kl.of sF)) rfl fun w v6 hv => ?_;obtain ⟨rfl, hw⟩ := hv;refine z1 ?_;refine zU (l1 := [3, 4, 5, 6, 7, 8]) (l2 := [9, 10, 11, 12, 13, 14, 15, 16, 17, 18, 19, 20]) rfl (d := 13) (ma k /\ 0 <= dI k r.rg.lo) (fun w => an G (ah b2 [r.lv, r.hv, .bool (decide q)] 64 :: L) w) rfl ?_ ?_
 ·
  refine ay (d := 7) rfl (fun h1 => ?_) fun h1 => ?_
  ·
   refine z2 ?_;refine lD au hw ?_;refine al rfl dZ rfl (eG hw (kl.of sF) (Jf.of sF)) rfl fun w v11 hv => ?_;obtain ⟨rfl, hw⟩ := hv;refine z3 ?_;refine ⟨hw, congrArg some (congrArg Value.bool ?_)⟩
   first | exact (decide_eq_false (fun h => h1 h.1)).symm | exact cd.2 ⟨fun h => ⟨h1, h⟩, fun h => h.2⟩
  refine z7 ?_;refine ⟨hw, congrArg some (congrArg Value.bool ?_)⟩
  first | exact (decide_eq_false (fun h => h1 h.1)).symm | exact cd.2 ⟨fun h => ⟨h1, h⟩, fun h => h.2⟩
 clear hw; intro w hw;refine z1 ?_;refine zU (l1 := [10, 11, 12, 13, 14, 15, 16, 17, 18, 19]) (l2 := [20]) rfl (d := 24) (nO r.rg k) (fun w => an G (ah b2 [r.lv, r.hv, .bool (decide q)] 64 :: L) w) rfl ?_ ?_
 ·
  refine ay (d := 14) rfl (fun h2 => ?_) fun h2 => ?_
  ·
   refine z1 ?_;refine lD bM hw ?_;refine z1 ?_;refine ay (d := 17) rfl (fun h3 => ?_) fun h3 => ?_
   ·
    refine z5 ?_;refine sO rfl rfl rfl rfl ?_;refine z2 ?_;refine ⟨hw, congrArg some (congrArg Value.bool ?_)⟩
    first | exact (decide_eq_true ⟨h2.1, h2.2, .inl (WO.2 h3)⟩).symm | exact cd.2 ⟨fun h => ⟨h2.1, h2.2, .inr h⟩, fun h => h.2.2.resolve_left (fun h4 => h3 (WO.1 h4))⟩ | exact (decide_eq_false (fun h => h2 ⟨h.1, h.2.1⟩)).symm
   refine z2 ?_;refine lD au hw ?_;refine al rfl dZ rfl (eG hw (kl.of sF) (hhi.of sF)) rfl fun w Zc hv => ?_;obtain ⟨rfl, hw⟩ := hv;refine z1 ?_;refine qJ rfl rfl rfl rfl ?_;refine z2 ?_;refine ⟨hw, congrArg some (congrArg Value.bool ?_)⟩
   first | exact (decide_eq_true ⟨h2.1, h2.2, .inl (WO.2 h3)⟩).symm | exact cd.2 ⟨fun h => ⟨h2.1, h2.2, .inr h⟩, fun h => h.2.2.resolve_left (fun h4 => h3 (WO.1 h4))⟩ | exact (decide_eq_false (fun h => h2 ⟨h.1, h.2.1⟩)).symm
  refine Ht ?_;refine ⟨hw, congrArg some (congrArg Value.bool ?_)⟩
  first | exact (decide_eq_true ⟨h2.1, h2.2, .inl (WO.2 h3)⟩).symm | exact cd.2 ⟨fun h => ⟨h2.1, h2.2, .inr h⟩, fun h => h.2.2.resolve_left (fun h4 => h3 (WO.1 h4))⟩ | exact (decide_eq_false (fun h => h2 ⟨h.1, h.2.1⟩)).symm
 clear hw; intro w hw;refine z3 ?_;exact aK rfl rfl rfl ⟨rfl, hw.tail⟩
theorem fy {v : Value} {l : bW} {m : Nat} (hw : an G L w) (kl : aG L (dP v l)) (hs : bP l) (hm : m <= 64) : Calls prog 259 #[v, iQ m] w (bU fun r w' => an G (row 5 1 r l.length (cD l) :: L) w') := by
 obtain ⟨a, cap, rfl⟩ := (kl.at hw).form;unfold bP at hs;refine ad (args := [_, _]) func259 rfl ntmps259 rfl rfl ?_;refine yb ?_;refine CN rfl aI bh gB pj rfl rfl ⟨oM, oM⟩ oM oM hw rfl fun w U2 hw => ?_;refine z6 ?_;refine aaW (l := l) rfl aI bh rfl rfl hw pK ((kl.of sF).at hw) sM (by simp [iA]; omega) rfl rfl (fun w hw => ?_);refine z7 ?_;exact aK rfl rfl rfl (oE (xs := cD l) (m := l.length) hw (by rw [cN, EV]) oM mL (by simp [iA, cN]; omega))
theorem AP {v u : Value} {a b : bW} (hw : an G L w) (ka : aG L (dP v a)) (kb : aG L (dP u b)) (ha : bP a) (hb : bP b) : Calls prog 258 #[v, u] w (bU fun r w' => an G (row 5 1 r (g9 a b).length (cD (g9 a b)) :: L) w') := by
 refine ad (args := [_, _]) func258 rfl ntmps258 rfl rfl ?_;refine z9 ?_;refine al rfl dZ rfl (eG hw (ka.of sF) (kb.of sF)) rfl fun w v7 hv => ?_;obtain ⟨rfl, hw⟩ := hv;refine z2 ?_;refine aE rfl (fun h1 => ?_) fun h1 => ?_
 ·
  refine z7 ?_;refine al rfl eT rfl (fy (m := 0) hw (kb.of sF) hb oM) rfl fun w v11 hv => ?_;refine z3 ?_;exact aK rfl rfl rfl (by rw [show g9 a b = b from ao h1]; exact hv)
 refine z4 ?_;refine al rfl eT rfl (fy (m := 0) hw (ka.of sF) ha oM) rfl fun w v11 hv => ?_;refine z3 ?_;exact aK rfl rfl rfl (by rw [show g9 a b = a from aj h1]; exact hv)
theorem Ku {v u : Value} {a b : bW} (hw : an G L w) (ka : aG L (dP v a)) (kb : aG L (dP u b)) (ha : bP a) (hb : bP b) : Calls prog 260 #[v, u] w (bU fun r w' => an G (row 5 1 r (xw a b).length (cD (xw a b)) :: L) w') := by
 refine ad (args := [_, _]) func260 rfl ntmps260 rfl rfl ?_;refine z9 ?_;refine al rfl dZ rfl (eG hw (ka.of sF) (kb.of sF)) rfl fun w v7 hv => ?_;obtain ⟨rfl, hw⟩ := hv;refine z2 ?_;refine aE rfl (fun h1 => ?_) fun h1 => ?_
 ·
  refine z7 ?_;refine al rfl eT rfl (fy (m := 0) hw (kb.of sF) hb oM) rfl fun w v11 hv => ?_;refine z3 ?_;exact aK rfl rfl rfl (by rw [show xw a b = b from ao h1]; exact hv)
 refine z4 ?_;refine al rfl eT rfl (fy (m := 0) hw (ka.of sF) ha oM) rfl fun w v11 hv => ?_;refine z3 ?_;exact aK rfl rfl rfl (by rw [show xw a b = a from aj h1]; exact hv)
end
section
variable {P : Program} {ops : Array Oper}
def oD (pre : List Nat) (listed : Array Bool) : Array Bool := pre.foldl (fun l i => l.setIfInBounds i true) listed
def V3 (P : Program) (ops : Array Oper) : List Nat -> Array Bool -> Bool
 | [], _ => true
 | i :: r, listed => (Region.ready .any ops listed).contains i && YF P ops listed i && V3 P ops r (listed.setIfInBounds i true)
theorem Ni {n : Nat} (gN : Hk P .any ops n) {Q : Act -> World -> Prop} (fuel : Nat) (Kc : Act -> World -> Prop) : ∀ (pre : List Nat) (listed : Array Bool) (done : List Nat) (a : Act) (w : World), a.tmps.size = n -> kU .any ops listed →
  (∀ q ∈ done, listed.getD q false = true) -> V3 P ops pre listed = true →
  (∀ a w, Kc a w -> a.tmps.size = n -> kU .any ops (oD pre listed) -> (∀ q ∈ pre.reverse ++ done, (oD pre listed).getD q false = true) -> He P .any ops Q fuel (oD pre listed) (pre.reverse ++ done) a w) →
  SL P ops Kc done pre a w -> He P .any ops Q (pre.length + fuel) listed done a w
 | [], listed, done, a, w, ed, hc, hd, _, hk, h => by
  have := hk a w h ed hc (by simpa [oD] using hd)
  simpa [oD] using this
 | i :: r, listed, done, a, w, ed, hc, hd, hB, hk, h => by
  simp only [V3, rR] at hB;obtain ⟨⟨hr, hf⟩, hB'⟩ := hB;have Ka : i ∈ Region.ready .any ops listed := by simpa using hr
  obtain ⟨_, oi, Uv, _⟩ := mem_ready.1 Ka;simp only [SL, Uv] at h;have hfe : (i :: r).length + fuel = (r.length + fuel) + 1 := by simp only [g5]; omega
  rw [hfe];refine Hd gN Uv (r.length + fuel) listed done a w ed hc hd (fun j oj hj Fz PR Kb => ?_) Ka ?_
  ·have iy : j < ops.size := (sY.1 hj).1;have h1 := BL.1 hf j (rj.2 iy);have hb : (j == i) = false := by simpa using Fz
   have zL : (rz .any ops i).contains j = false := by
    cases hx : (rz .any ops i).contains j with
    | false => rfl
    | true => exact absurd (LL.1 hx) Kb
   simp only [hb, PR, zL, Bool.false_or, Uv, hj, rR] at h1;exact h1
  refine jn (fun v w' h' => Ni gN fuel Kc r _ _ _ _ (Af ed _ _) (hc.set Ka) (fun q hq => ?_) hB' (fun a w hK hs RZ zK => ?_) h') h
  ·rcases bQ.1 hq with rfl | hq
   ·have iy : q < listed.size := by rw [hc.size]; exact (sY.1 Uv).1
    simp [iy]
   exact getD_set_true (hd q hq)
  have abc : (i :: r).reverse ++ done = r.reverse ++ i :: done := by simp
  have Ow : oD (i :: r) listed = oD r (listed.setIfInBounds i true) := rfl;have := hk a w hK hs (by rw [Ow]; exact RZ) (by rw [abc, Ow]; exact zK);rw [abc, Ow] at this;exact this
def Zh (P : Program) (ops : Array Oper) (n : Nat) (pre : List Nat) (i : Nat) (r1 : List Nat) (j : Nat) (r2 : List Nat) : Bool :=
 Region.noSelect ops && aam n ops && NT P ops && (pre.length + (r1.length + 1) == ops.size) && (r2.length == r1.length) && V3 P ops pre (Array.replicate ops.size false) &&
  (Region.ready .any ops (oD pre (Array.replicate ops.size false))).all (fun k => k == i || k == j) && !(Region.ready .any ops (oD pre (Array.replicate ops.size false))).isEmpty &&
  L8 P ops r1 ((oD pre (Array.replicate ops.size false)).setIfInBounds i true) && L8 P ops r2 ((oD pre (Array.replicate ops.size false)).setIfInBounds j true)
theorem JE {n : Nat} (gN : Hk P .any ops n) {Q : Act -> World -> Prop} {i : Nat} {r : List Nat} {listed : Array Bool} {done : List Nat} {a : Act} {w : World} (ed : a.tmps.size = n) (hc : kU .any ops listed) (hd : ∀ q ∈ done, listed.getD q false = true)
  (hr : i ∈ Region.ready .any ops listed) (hB : L8 P ops r (listed.setIfInBounds i true) = true) (h : SL P ops Q done (i :: r) a w) : ∀ o, ops[i]? = some o -> lG P .any ops done i o (He P .any ops Q r.length (listed.setIfInBounds i true) (i :: done)) a w := by
 intro o ho;simp only [SL, ho] at h;refine jn (fun v w' h' => Hc gN r _ _ _ _ (Af ed _ _) (hc.set hr) (fun q hq => ?_) hB h') h;rcases bQ.1 hq with rfl | hq
 ·have iy : q < listed.size := by rw [hc.size]; exact (sY.1 ho).1
  simp [iy]
 exact getD_set_true (hd q hq)
theorem Ey {ro : Option Nat} {n : Nat} (pre : List Nat) (i : Nat) (r1 : List Nat) (j : Nat) (r2 : List Nat) {id : Nat} {Q : Exit -> Act -> World -> Prop} {a : Act} {w : World} (hm : P.follows .mixedOrders = true) (hB : Zh P ops n pre i r1 j r2 = true) (ed : a.tmps.size = n)
  (h : SL P ops (fun a' w' => SL P ops (Q .normal) pre.reverse (i :: r1) a' w' /\ SL P ops (Q .normal) pre.reverse (j :: r2) a' w') [] pre a { w with drawn := w.drawn + 1 }) : (Code.region id ops true).wpIn (Fw ro) 0 P Q a w := by
 simp only [Zh, rR, beq_iff_eq] at hB;obtain ⟨⟨⟨⟨⟨⟨⟨⟨⟨h1, h2⟩, h3⟩, h4⟩, h5⟩, h6⟩, h7⟩, h8⟩, h9⟩, uV⟩ := hB;refine wpIn_region_any hm (rf (Q := Q .normal) (fun _ _ h => h) _ _ [] _ _ ?_);have gN := MV (n := n) h1 h2 h3;have gn := Ni gN (Q := Q .normal) (r1.length + 1) (fun a' w' => SL P ops (Q .normal) pre.reverse (i :: r1) a' w' /\ SL P ops (Q .normal) pre.reverse (j :: r2) a' w') pre (Array.replicate ops.size false) [] a _ ed ⟨by simp, fun j o ho hl => ?_⟩ (fun q hq => by cases hq) h6
  (fun a' w' hK hs hc hd => ⟨fun h0 => ?_, fun k hk o ho => ?_⟩) h
 ·rw [h4] at gn;exact gn
 ·exfalso;rcases qz j ops.size with h' | h'
  ·simp [h'] at hl
  simp [EZ (show (Array.replicate ops.size false).size <= j by simpa using h')] at hl
 ·rw [h0] at h8; simp at h8
 have zK : ∀ q ∈ pre.reverse, (oD pre (Array.replicate ops.size false)).getD q false = true := fun q hq => hd q (by simpa using hq)
 have h7' := BL.1 h7 k hk;simp only [Bool.or_eq_true, beq_iff_eq] at h7';rw [show pre.reverse ++ ([] : List Nat) = pre.reverse from pz _];rcases h7' with rfl | rfl
 ·exact JE gN hs hc zK hk h9 hK.1 o ho
 rw [<-h5]; exact JE gN hs hc zK hk uV hK.2 o ho
end
section
variable {P : Program} {n : Nat} {ro : Option Nat} {ops : Array Oper} {K : hC} {E : List (Nat × hC)} {F : hC} {e : fm} {w : World}
theorem Pf {id : Nat} (pre : List Nat) (i : Nat) (r1 : List Nat) (j : Nat) (r2 : List Nat) (hm : P.follows .mixedOrders = true) (hB : Zh P ops n pre i r1 j r2 = true)
  (h : XL P n ops true [] pre (fun e' w' => XL P n ops true pre.reverse (i :: r1) K e' w' /\ XL P n ops true pre.reverse (j :: r2) K e' w') e { w with drawn := w.drawn + 1 }) : X P n ro (.region id ops true) K E F e w := fun a ha => by
 refine Ey pre i r1 j r2 hm hB ha.size ?_;refine Bo (fun a' w' ⟨e', El, h1, h2⟩ => ⟨h1 a' El, h2 a' El⟩) _ _ _ _ (h a ha)
end
section
variable {G : Gh} {L R : List aw} {w : World}
theorem AQ {a b : yI} (hw : an G L w) (ha : a.Ok L) (hb : b.Ok L) :
  Calls prog 182 #[gQ a.cells, gQ b.cells] w (bU fun u w' => ∃ r : yI, u = gQ r.cells /\ r.rg = ga a.rg b.rg /\ iR r.cells /\ an G (sW r ++ L) w') := by
 have hal := ha.lo;have hah := ha.hi;have s8 := hb.lo;have Vz := hb.hi;obtain ⟨qa, dqa, Mv, ha2⟩ := Cz a.rg.Hy;obtain ⟨qb, dqb, r9, zL⟩ := Cz b.rg.Hy;have Vx : a.cells = [a.lv, a.hv, .bool (decide qa)] := by rw [<-Mv]; rfl
 have hcb : b.cells = [b.lv, b.hv, .bool (decide qb)] := by rw [<-r9]; rfl
 rw [Vx, hcb];have ho : (ga a.rg b.rg).Hy = decide (qa /\ qb) := by show (a.rg.Hy && b.rg.Hy) = _; rw [Mv, r9, Bool.decide_and]
 have hh : (ga a.rg b.rg).hi = if a.rg.Hy = true then (if b.rg.Hy = true then [] else b.rg.hi) else if b.rg.Hy = true then a.rg.hi else xw a.rg.hi b.rg.hi := rfl
 refine ad (args := [_, _]) func182 rfl ntmps182 rfl rfl ?_;refine z2 ?_;refine a9 rfl rfl rfl hw rfl fun w b2 hw => ?_;refine a9 rfl rfl rfl hw rfl fun w b3 hw => ?_;refine aF rfl lH hw rfl fun w b4 hw => ?_;refine aC ?_;refine pS (fun e w => ∃ (rG : Option Addr) (uh b5 : Nat), e = [(2, pQ b2), (3, pQ b3), (4, pQ b4), (5, pQ b5)] /\ an G (ah b2 [a.lv, a.hv, .bool (decide qa)] 64 :: ah b3 [b.lv, b.hv, .bool (decide qb)] 64 :: ah b4 [nQ, nQ, .bool false] 64 :: ah b5 [.slice rG (g9 a.rg.lo b.rg.lo).length uh, nQ, .bool (decide (qa /\ qb))] 64 :: row 5 1 (.slice rG (g9 a.rg.lo b.rg.lo).length uh) (g9 a.rg.lo b.rg.lo).length (cD (g9 a.rg.lo b.rg.lo)) :: L) w) ?_ ?_
 ·
  refine Pf [0, 1, 2, 3, 5, 6] 4 [7, 8, 9, 10, 11, 12, 13] 12 [4, 7, 8, 9, 10, 11, 13] bJ kR ?_;replace hw := hw.drawn (w.drawn + 1);refine z1 ?_;refine lD au hw ?_;refine z1 ?_;refine lD au hw ?_;refine z1 ?_;refine lD bM hw ?_;refine aC ?_;refine ⟨?_, ?_⟩
  ·
   refine dJ rfl yA rfl (AP hw (hal.of sF) (s8.of sF) ha.sl hb.sl) (fun w v10 hv q' hq => ?_) fun w v10 hv => ?_
   ·
    have hw : an G (row 5 1 v10 _ _ :: _) w := hv;have hq := bm (l := [6]) kR hq;simp only [bQ, dz, or_false] at hq;subst hq;exact bx rfl rfl rfl (ar.bL bM hw pK rfl)
   have hw : an G (row 5 1 v10 _ _ :: _) w := hv;obtain ⟨rG, uh, rfl⟩ := aP hw;refine z1 ?_;refine ay (d := 13) rfl (fun h1 => ?_) fun h1 => ?_
   ·
    refine z1 ?_;refine lD bM hw ?_;refine z1 ?_;refine aO (v := .agg #[.slice rG (g9 a.rg.lo b.rg.lo).length uh, nQ, .bool (decide qb)]) rfl rfl (fun w => kR) ?_;refine pT rfl lH hw (fun w b5 hw q' hq => ?_) fun w b5 hw => ?_
    ·
     have hq := bm (l := [9, 6, 3, 1]) kR hq;simp only [bQ, dz, or_false] at hq;rcases hq with rfl | rfl | rfl | rfl
     ·exact bx rfl rfl rfl (ar.bL bM hw pK rfl)
     ·exact bx rfl rfl rfl (ar.bL bM hw pK rfl)
     ·exact bx rfl rfl rfl (ar.bL au hw pK rfl)
     exact bx rfl rfl rfl (ar.bL au hw pK rfl)
    refine aT (cs := [.slice rG (g9 a.rg.lo b.rg.lo).length uh, nQ, .bool (decide qb)]) (l' := [.slice rG (g9 a.rg.lo b.rg.lo).length uh, nQ, .bool (decide qb)]) rfl tV rfl rfl aY rfl (by intro u hu; simp at hu; rcases hu with rfl | rfl | rfl <;> rfl) hw pK sM rfl kR (fun w hw => ?_);refine aC ?_;have e1 : decide (qa /\ qb) = decide qb := cd.2 ⟨fun h => h.2, fun h => ⟨h1, h⟩⟩;rw [e1];exact ⟨[(2, _), (3, _), (4, _), (5, _)], sB, _, _, b5, rfl, hw.b [ah b2 _ _, ah b3 _ _, ah b4 _ _, ah b5 _ _, row 5 1 _ _ _]⟩
   refine z3 ?_;refine aO (v := .agg #[.slice rG (g9 a.rg.lo b.rg.lo).length uh, nQ, .bool (false)]) rfl rfl (fun w => kR) ?_;refine pT rfl lH hw (fun w b5 hw q' hq => ?_) fun w b5 hw => ?_
   ·
    have hq := bm (l := [9, 6, 3, 1]) kR hq;simp only [bQ, dz, or_false] at hq;rcases hq with rfl | rfl | rfl | rfl
    ·exact Xn rfl rfl rfl rfl rfl
    ·exact bx rfl rfl rfl (ar.bL bM hw pK rfl)
    ·exact bx rfl rfl rfl (ar.bL au hw pK rfl)
    exact bx rfl rfl rfl (ar.bL au hw pK rfl)
   refine aT (cs := [.slice rG (g9 a.rg.lo b.rg.lo).length uh, nQ, .bool (false)]) (l' := [.slice rG (g9 a.rg.lo b.rg.lo).length uh, nQ, .bool (false)]) rfl tV rfl rfl aY rfl (by intro u hu; simp at hu; rcases hu with rfl | rfl | rfl <;> rfl) hw pK sM rfl kR (fun w hw => ?_);refine aC ?_;have e1 : decide (qa /\ qb) = false := decide_eq_false (fun h => h1 h.1);rw [e1];exact ⟨[(2, _), (3, _), (4, _), (5, _)], sB, _, _, b5, rfl, hw.b [ah b2 _ _, ah b3 _ _, ah b4 _ _, ah b5 _ _, row 5 1 _ _ _]⟩
  refine pT rfl lH hw (fun w b5 hw q' hq => ?_) fun w b5 hw => ?_
  ·
   have hq := bm (l := [6, 3, 1]) kR hq;simp only [bQ, dz, or_false] at hq;rcases hq with rfl | rfl | rfl
   ·exact bx rfl rfl rfl (ar.bL bM hw pK rfl)
   ·exact bx rfl rfl rfl (ar.bL au hw pK rfl)
   exact bx rfl rfl rfl (ar.bL au hw pK rfl)
  refine dJ rfl yA rfl (AP hw (hal.of sF) (s8.of sF) ha.sl hb.sl) (fun w v10 hv q' hq => ?_) fun w v10 hv => ?_
  ·
   have hw : an G (row 5 1 v10 _ _ :: _) w := hv;have hq := bm (l := [6]) kR hq;simp only [bQ, dz, or_false] at hq;subst hq;exact bx rfl rfl rfl (ar.bL bM hw pK rfl)
  have hw : an G (row 5 1 v10 _ _ :: _) w := hv;obtain ⟨rG, uh, rfl⟩ := aP hw;refine z1 ?_;refine ay (d := 13) rfl (fun h2 => ?_) fun h2 => ?_
  ·
   refine z1 ?_;refine lD bM hw ?_;refine z1 ?_;refine aO (v := .agg #[.slice rG (g9 a.rg.lo b.rg.lo).length uh, nQ, .bool (decide qb)]) rfl rfl (fun w => kR) ?_;refine aT (cs := [.slice rG (g9 a.rg.lo b.rg.lo).length uh, nQ, .bool (decide qb)]) (l' := [.slice rG (g9 a.rg.lo b.rg.lo).length uh, nQ, .bool (decide qb)]) rfl tV rfl rfl aY rfl (by intro u hu; simp at hu; rcases hu with rfl | rfl | rfl <;> rfl) hw pK sM rfl kR (fun w hw => ?_);refine aC ?_;have e1 : decide (qa /\ qb) = decide qb := cd.2 ⟨fun h => h.2, fun h => ⟨h2, h⟩⟩;rw [e1];exact ⟨[(2, _), (3, _), (4, _), (5, _)], sB, _, _, b5, rfl, hw.b [ah b2 _ _, ah b3 _ _, ah b4 _ _, ah b5 _ _, row 5 1 _ _ _]⟩
  refine z3 ?_;refine aO (v := .agg #[.slice rG (g9 a.rg.lo b.rg.lo).length uh, nQ, .bool (false)]) rfl rfl (fun w => kR) ?_;refine aT (cs := [.slice rG (g9 a.rg.lo b.rg.lo).length uh, nQ, .bool (false)]) (l' := [.slice rG (g9 a.rg.lo b.rg.lo).length uh, nQ, .bool (false)]) rfl tV rfl rfl aY rfl (by intro u hu; simp at hu; rcases hu with rfl | rfl | rfl <;> rfl) hw pK sM rfl kR (fun w hw => ?_);refine aC ?_;have e1 : decide (qa /\ qb) = false := decide_eq_false (fun h => h2 h.1);rw [e1];exact ⟨[(2, _), (3, _), (4, _), (5, _)], sB, _, _, b5, rfl, hw.b [ah b2 _ _, ah b3 _ _, ah b4 _ _, ah b5 _ _, row 5 1 _ _ _]⟩
 clear hw;rintro e w ⟨rG, uh, b5, rfl, hw⟩;refine z5 ?_;refine lD bM hw ?_;refine z2 ?_;refine aE rfl (fun h3 => ?_) fun h3 => ?_
 ·
  refine z3 ?_;refine bt rfl rfl (ar.cU aY hw pK sM) ?_;refine aT (cs := [.slice rG (g9 a.rg.lo b.rg.lo).length uh, nQ, .bool (decide (qa /\ qb))]) (l' := [.slice rG (g9 a.rg.lo b.rg.lo).length uh, nQ, .bool (decide (qa /\ qb))]) rfl tV rfl rfl aY rfl (by intro u hu; simp at hu; rcases hu with rfl | rfl | rfl <;> rfl) hw pK sM rfl kR (fun w hw => ?_);refine z2 ?_;exact aK rfl rfl ⟨_, rfl, (ar.cU aY hw pK sM)⟩ (by
 have e1 : (ga a.rg b.rg).hi = [] := by rw [hh]; rw [ao (ha2.2 h3.1), ao (zL.2 h3.2)]
 refine ⟨⟨ga a.rg b.rg, .slice rG (g9 a.rg.lo b.rg.lo).length uh, nQ⟩, by rw [yI.cells, ho], rfl, by intro u hu; simp [yI.cells] at hu; rcases hu with rfl | rfl | rfl <;> rfl, ?_⟩;have hw := bI hw 5 1;unfold sW;simp only [e1];have hz := (hw.b [ah b2 _ _, ah b3 _ _, ah b4 _ _, ah b5 _ _, row 5 1 (.slice rG _ _) _ _, row 5 1 (.slice none _ _) _ _]).tail.tail.tail.tail;exact hz)
 refine z3 ?_;refine lD bM hw ?_;refine z2 ?_;refine aE rfl (fun h4 => ?_) fun h4 => ?_
 ·
  refine z2 ?_;refine lD au hw ?_;refine al rfl eT rfl (fy (m := 0) hw (Vz.of sF) hb.sh oM) rfl fun w S7 hv => ?_;have hw : an G (row 5 1 S7 _ _ :: _) w := hv;obtain ⟨XW, c32, rfl⟩ := aP hw;refine z1 ?_;refine bu (l' := [.slice rG (g9 a.rg.lo b.rg.lo).length uh, .slice XW (b.rg.hi).length c32, .bool (decide (qa /\ qb))]) rfl tV rfl rfl au rfl hw pK rfl rfl rfl fun w hw => ?_;refine z3 ?_;refine bt rfl rfl (ar.cU aY hw pK sM) ?_;refine aT (cs := [.slice rG (g9 a.rg.lo b.rg.lo).length uh, .slice XW (b.rg.hi).length c32, .bool (decide (qa /\ qb))]) (l' := [.slice rG (g9 a.rg.lo b.rg.lo).length uh, .slice XW (b.rg.hi).length c32, .bool (decide (qa /\ qb))]) rfl tV rfl rfl aY rfl (by intro u hu; simp at hu; rcases hu with rfl | rfl | rfl <;> rfl) hw pK sM rfl kR (fun w hw => ?_);refine z2 ?_;exact aK rfl rfl ⟨_, rfl, (ar.cU aY hw pK sM)⟩ (by
 have e1 : (ga a.rg b.rg).hi = b.rg.hi := by rw [hh]; rw [ao (ha2.2 h4), aj (fun h => h3 ⟨h4, zL.1 h⟩)]
 refine ⟨⟨ga a.rg b.rg, .slice rG (g9 a.rg.lo b.rg.lo).length uh, .slice XW (b.rg.hi).length c32⟩, by rw [yI.cells, ho], rfl, by intro u hu; simp [yI.cells] at hu; rcases hu with rfl | rfl | rfl <;> rfl, ?_⟩;unfold sW;simp only [e1];have hz := (hw.b [ah b2 _ _, ah b3 _ _, ah b4 _ _, ah b5 _ _, row 5 1 (.slice rG _ _) _ _, row 5 1 (.slice XW _ _) _ _]).tail.tail.tail.tail;exact hz)
 refine z3 ?_;refine lD bM hw ?_;refine z2 ?_;refine aE rfl (fun h5 => ?_) fun h5 => ?_
 ·
  refine z2 ?_;refine lD au hw ?_;refine al rfl eT rfl (fy (m := 0) hw (hah.of sF) ha.sh oM) rfl fun w X9 hv => ?_;have hw : an G (row 5 1 X9 _ _ :: _) w := hv;obtain ⟨a39, c39, rfl⟩ := aP hw;refine z1 ?_;refine bu (l' := [.slice rG (g9 a.rg.lo b.rg.lo).length uh, .slice a39 (a.rg.hi).length c39, .bool (decide (qa /\ qb))]) rfl tV rfl rfl au rfl hw pK rfl rfl rfl fun w hw => ?_;refine z3 ?_;refine bt rfl rfl (ar.cU aY hw pK sM) ?_;refine aT (cs := [.slice rG (g9 a.rg.lo b.rg.lo).length uh, .slice a39 (a.rg.hi).length c39, .bool (decide (qa /\ qb))]) (l' := [.slice rG (g9 a.rg.lo b.rg.lo).length uh, .slice a39 (a.rg.hi).length c39, .bool (decide (qa /\ qb))]) rfl tV rfl rfl aY rfl (by intro u hu; simp at hu; rcases hu with rfl | rfl | rfl <;> rfl) hw pK sM rfl kR (fun w hw => ?_);refine z2 ?_;exact aK rfl rfl ⟨_, rfl, (ar.cU aY hw pK sM)⟩ (by
 have e1 : (ga a.rg b.rg).hi = a.rg.hi := by rw [hh]; rw [aj (fun h => h4 (ha2.1 h)), ao (zL.2 h5)]
 refine ⟨⟨ga a.rg b.rg, .slice rG (g9 a.rg.lo b.rg.lo).length uh, .slice a39 (a.rg.hi).length c39⟩, by rw [yI.cells, ho], rfl, by intro u hu; simp [yI.cells] at hu; rcases hu with rfl | rfl | rfl <;> rfl, ?_⟩;unfold sW;simp only [e1];have hz := (hw.b [ah b2 _ _, ah b3 _ _, ah b4 _ _, ah b5 _ _, row 5 1 (.slice rG _ _) _ _, row 5 1 (.slice a39 _ _) _ _]).tail.tail.tail.tail;exact hz)
 refine z2 ?_;refine lD au hw ?_;refine z1 ?_;refine lD au hw ?_;refine al rfl Ig rfl (Ku hw (hah.of sF) (Vz.of sF) ha.sh hb.sh) rfl fun w VY hv => ?_;have hw : an G (row 5 1 VY _ _ :: _) w := hv;obtain ⟨a22, c22, rfl⟩ := aP hw;refine z1 ?_;refine bu (l' := [.slice rG (g9 a.rg.lo b.rg.lo).length uh, .slice a22 (xw a.rg.hi b.rg.hi).length c22, .bool (decide (qa /\ qb))]) rfl tV rfl rfl au rfl hw pK rfl rfl rfl fun w hw => ?_;refine z3 ?_;refine bt rfl rfl (ar.cU aY hw pK sM) ?_;refine aT (cs := [.slice rG (g9 a.rg.lo b.rg.lo).length uh, .slice a22 (xw a.rg.hi b.rg.hi).length c22, .bool (decide (qa /\ qb))]) (l' := [.slice rG (g9 a.rg.lo b.rg.lo).length uh, .slice a22 (xw a.rg.hi b.rg.hi).length c22, .bool (decide (qa /\ qb))]) rfl tV rfl rfl aY rfl (by intro u hu; simp at hu; rcases hu with rfl | rfl | rfl <;> rfl) hw pK sM rfl kR (fun w hw => ?_);refine z2 ?_;exact aK rfl rfl ⟨_, rfl, (ar.cU aY hw pK sM)⟩ (by
 have e1 : (ga a.rg b.rg).hi = xw a.rg.hi b.rg.hi := by rw [hh]; rw [aj (fun h => h4 (ha2.1 h)), aj (fun h => h5 (zL.1 h))]
 refine ⟨⟨ga a.rg b.rg, .slice rG (g9 a.rg.lo b.rg.lo).length uh, .slice a22 (xw a.rg.hi b.rg.hi).length c22⟩, by rw [yI.cells, ho], rfl, by intro u hu; simp [yI.cells] at hu; rcases hu with rfl | rfl | rfl <;> rfl, ?_⟩;unfold sW;simp only [e1];have hz := (hw.b [ah b2 _ _, ah b3 _ _, ah b4 _ _, ah b5 _ _, row 5 1 (.slice rG _ _) _ _, row 5 1 (.slice a22 _ _) _ _]).tail.tail.tail.tail;exact hz)
end

def cp (x : Int × Int) : List Value := [iQ x.1, iQ x.2]
def k9 (x : Int × Int) : Prop := -1099511627776 <= x.1 /\ x.1 <= 1099511627776 /\ -1099511627776 <= x.2 /\ x.2 <= 1099511627776
def mo (r x : Int × Int) : Int × Int := (max x.1 r.1, min x.2 r.2)
def dB (r : Int × Int) (rs : List (Int × Int)) : List (Int × Int) := (rs.map (mo r)).filter fun x => decide (x.1 <= x.2)
theorem JM (r : Int × Int) (rs : List (Int × Int)) (x : Int × Int) : dB r (rs ++ [x]) = dB r rs ++ (if (mo r x).1 <= (mo r x).2 then [mo r x] else []) := by
 unfold dB;rw [kz, JX]
 by_cases h : (mo r x).1 <= (mo r x).2 <;> simp [h]
theorem BH (rs : List (Int × Int)) : ∀ r ∈ rs.map cp, r.length = 2 := fun r hr => by
 obtain ⟨x, _, rfl⟩ := dE.1 hr; rfl
theorem u4 (r : Int × Int) (l l' : List (Int × Int)) : dB r (l ++ l') = dB r l ++ dB r l' := by
 unfold dB; rw [kz, JX]
theorem Ez {r x : Int × Int} {rs : List (Int × Int)} {k : Nat} (hx : rs[k]? = some x) (hc : (mo r x).1 <= (mo r x).2) : (dB r rs)[(dB r (rs.take k)).length]? = some (mo r x) := by
 have hk : k < rs.length := (xu.1 hx).1;have e : rs = rs.take k ++ ([x] ++ rs.drop (k + 1)) := by
  have h1 := N7 k rs;rw [Wd hk] at h1;have h2 : rs[k] = x := by rw [dm hk] at hx; exact Option.some.inj hx
  rw [h2] at h1;exact h1.symm
 have e2 : dB r rs = dB r (rs.take k) ++ ([mo r x] ++ dB r (rs.drop (k + 1))) := by
  conv => lhs; rw [e]
  rw [u4, u4];have : dB r [x] = [mo r x] := by unfold dB; simp [hc]
  rw [this]
 rw [e2, Ty (g8 _), Nat.sub_self];rfl
theorem zW {r x : Int × Int} {rs : List (Int × Int)} {k : Nat} (hx : rs[k]? = some x) : dB r (rs.take (k + 1)) = dB r (rs.take k) ++ (if (mo r x).1 <= (mo r x).2 then [mo r x] else []) := by
 rw [Rf, hx]; exact JM _ _ _
def adi (r : Int × Int) (rs : List (Int × Int)) (k : Nat) (args : List Value) (_ : List aw) : Prop := ∃ x, (dB r rs)[k]? = some x /\ args = [gQ (cp x)]
theorem nD {v : Value} {A B : Prop} (h : (v = .bool true /\ A) \/ (v = .bool false /\ B)) : ∃ b : Bool, v = .bool b /\ (b = true -> A) /\ (b = false -> B) := by
 rcases h with ⟨rfl, h⟩ | ⟨rfl, h⟩
 ·exact ⟨true, rfl, fun _ => h, fun h => by cases h⟩
 exact ⟨false, rfl, (fun h => by cases h), fun _ => h⟩
section
variable {G : Gh} {L R : List aw} {w : World}
theorem sj {n a b : Int} (hw : an G L w) : Calls prog 274 #[.int .u64 n, .agg #[iQ a, iQ b]] w (bU fun r w' => (∃ m, r = .int .u64 m) /\ an G L w') := by
 refine ad (args := [_, _]) func274 rfl ntmps274 rfl rfl ?_;refine z2 ?_;refine a9 rfl rfl rfl hw rfl fun w b3 hw => ?_;refine z5 ?_;refine lD ag hw ?_;refine By rfl kR QG q8 rfl ?_;refine z1 ?_;refine lD ag hw ?_;refine By rfl kR QG q8 rfl ?_;refine SU rfl rfl rfl ?_;refine z7 ?_;refine SU rfl rfl rfl ?_;refine z2 ?_;refine aE rfl (fun h1 => ?_) fun h1 => ?_
 ·
  refine z5 ?_;exact aK rfl rfl rfl ⟨⟨_, rfl⟩, hw.tail⟩
 refine z5 ?_;refine Iu rfl rfl rfl ?_;refine Iu rfl rfl rfl ?_;refine z3 ?_;exact aK rfl rfl rfl ⟨⟨_, rfl⟩, hw.tail⟩
theorem mh {q : Value} {a b : Int} (hw : an G L w) (hq : ∃ z, q = .pointer z) : Calls prog 328 #[q, .agg #[iQ a, iQ b]] w (bU fun r w' => ∃ b2 b3, r = .func (.func 350) #[] #[pQ b2, pQ b3] /\ an G (ah b2 [q] 111 :: ah b3 [iQ a, iQ b] 379 :: L) w') := by
 obtain ⟨z, rfl⟩ := hq;refine ad (args := [_, _]) func328 rfl ntmps328 rfl rfl ?_;refine z2 ?_;refine a9 rfl rfl rfl hw rfl fun w b2 hw => ?_;refine a9 rfl rfl rfl hw rfl fun w b3 hw => ?_;refine z4 ?_;refine gP (v1 := #[]) (v2 := #[pQ b2, pQ b3]) rfl (by intro z hz; simp at hz; rcases hz with rfl | rfl <;> exact ⟨_, rfl⟩) sM (by simp only [jM, cH, gE]; rfl) ?_;refine z3 ?_;exact aK rfl rfl rfl ⟨b2, b3, rfl, hw.b [ah b2 _ _, ah b3 _ _]⟩
theorem Ja {rs : List (Int × Int)} {a b : Int} {b2 b3 qb : Nat} {v : Value} (aW : rs.length <= 1000000) : Bq prog 350 [pQ b2, pQ b3] G (ah b2 [pQ qb] 111 :: ah b3 [iQ a, iQ b] 379 :: ah qb [v] 377 :: row 379 2 v rs.length (rs.map cp).flatten :: L) w (dB (a, b) rs).length (adi (a, b) rs) (ah b2 [pQ qb] 111 :: ah b3 [iQ a, iQ b] 379 :: ah qb [v] 377 :: row 379 2 v rs.length (rs.map cp).flatten :: L) := by
 intro l J Jx w hy hw;have iv : aG (row 379 2 v rs.length (rs.map cp).flatten :: L) (g7 2 v (rs.map cp)) := (g7.row sM (BH rs)).head _;obtain ⟨sa, sc, h1, -, -⟩ := ((iv.of sF).at hw).form;rw [bX] at h1;subst h1;refine ad (args := [_, _, _]) func350 rfl ntmps350 rfl rfl ?_;refine z2 ?_;refine lD eA hw ?_;refine z2 ?_;refine lD c9 hw ?_;refine eJ rfl kR aR rfl ?_;refine z3 ?_;refine bF (fun m e w => ∃ k : Nat, k <= rs.length /\ m = rs.length - k /\ e = [(0, .func (.yield l) #[] #[]), (1, pQ b2), (2, pQ b3), (9, .slice sa rs.length sc), (10, iQ rs.length), (11, iQ k)] /\ an G (J (dB (a, b) (rs.take k)).length :: ah b2 [pQ qb] 111 :: ah b3 [iQ a, iQ b] 379 :: ah qb [.slice sa rs.length sc] 377 :: row 379 2 (.slice sa rs.length sc) rs.length (rs.map cp).flatten :: L) w)
  (m := rs.length) sB
  ⟨0, dy _, rfl, rfl, hw⟩ ?_
 rintro m e w ⟨k, hk, rfl, rfl, hw⟩;refine z5 ?_;refine aE rfl (fun h1 => ?_) fun h1 => ?_
 ·
  have gK : k < rs.length := oM;obtain ⟨x, hx⟩ : ∃ x, rs[k]? = some x := ⟨_, dm gK⟩;have tU : (rs.map cp)[k]? = some (cp x) := by rw [dg, hx]; rfl
  obtain ⟨bb, oo, rfl⟩ := ((iv.of sF).at hw).nn (by rw [bX]; omega);refine z5 ?_;refine eY rfl aR bZ rfl rfl ⟨oM, oM⟩ ?_;refine bt rfl rfl (ar.many bA rfl (by rw [ez]; exact ((iv.of sF).at hw).at tU)) ?_;refine aF rfl gu hw rfl fun w b5 hw => ?_;refine aT (cs := cp x) (l' := [iQ x.1, iQ x.2]) rfl tV rfl rfl bA rfl (by intro u hu; simp [cp] at hu; rcases hu with rfl | rfl <;> rfl) hw pK (by simp [cp]) rfl rfl (fun w hw => ?_);refine z2 ?_;refine bd [0, 1, 2, 3, 4, 5, 6, 7, 8, 9, 10, 11, 12, 13] bJ kR ?_;replace hw := hw.drawn (w.drawn + 1);refine z1 ?_;refine lD ag hw ?_;refine z1 ?_;refine lD ag hw ?_;refine JJ rfl rfl rfl ?_;refine z1 ?_;refine lD ag hw ?_;refine z1 ?_;refine lD ag hw ?_;refine uZ rfl rfl rfl ?_;refine z1 ?_;refine sN (l' := [_, _]) rfl tV rfl rfl ag rfl hw pK rfl rfl (fun w hw q' hq => ?_) fun w hw => ?_
  ·
   have hq := bm (l := [8]) kR hq;simp only [bQ, dz, or_false] at hq;subst hq;exact bx rfl rfl rfl (ar.bL ag hw pK rfl)
  refine z1 ?_;refine bu (l' := [_, _]) rfl tV rfl rfl ag rfl hw pK rfl rfl kR fun w hw => ?_;refine z4 ?_;refine lD ag hw ?_;refine z1 ?_;refine lD ag hw ?_;refine z2 ?_;refine ay (d := 32) rfl (fun h2 => ?_) fun h2 => ?_
  ·
   have h2c : (mo (a, b) x).1 <= (mo (a, b) x).2 := h2;refine z1 ?_;refine bt rfl rfl (ar.cU bA hw pK sM) ?_;refine pk rfl rfl rfl (hy (dB (a, b) (rs.take k)).length _ _ w ((xu.1 (Ez hx h2c)).1) ⟨_, Ez hx h2c, rfl⟩ (hw.pick (A := J _) pK)) rfl fun w v35 hv => ?_;obtain ⟨bq, rfl, r9, zL⟩ := nD hv;refine jG rfl rfl ?_;refine z2 ?_;refine di rfl (fun h3 => ?_) fun h3 => ?_
   ·
    refine rL ?_;exact kC rfl rfl (.inr ((zL (by simpa using h3)).b [ah b5 _ _, Jx, ah b2 _ _, ah b3 _ _, ah qb _ _, row _ _ _ _ _]).tail)
   refine z5 ?_;have hw := ((r9 (by simpa using h3)).b [ah b5 _ _, J _, ah b2 _ _, ah b3 _ _, ah qb _ _, row _ _ _ _ _]).tail;refine ⟨rs.length - (k + 1), oM, [(0, _), (1, _), (2, _), (9, _), (10, _), (11, iQ (k + 1 : Nat))], sB, k + 1, oM, rfl, rfl, ?_⟩;rw [zW hx, ao h2c, de];exact hw
  have h2c : ¬ (mo (a, b) x).1 <= (mo (a, b) x).2 := h2;refine z6 ?_;refine cg rfl ?_;refine z5 ?_;have hw := (hw.b [ah b5 _ _, J _, ah b2 _ _, ah b3 _ _, ah qb _ _, row _ _ _ _ _]).tail;refine ⟨rs.length - (k + 1), oM, [(0, _), (1, _), (2, _), (9, _), (10, _), (11, iQ (k + 1 : Nat))], sB, k + 1, oM, rfl, rfl, ?_⟩;rw [zW hx, aj h2c, pz];exact hw
 refine z1 ?_;exact kC rfl rfl (.inl (by
 rw [oF oM] at hw;exact hw))
end
theorem gz {P : Program} {n : Nat} {fn : Func} {Q : Value -> World -> Prop} {e : fm} {D : Nat} {ds : List Value} {G : Gh} {L R : List aw} {w : World} (hw : an G L w) (hp : cG (dG D) L R) (h : ∀ w', an G R w' -> ox P n fn Q e ds w') : ox P n fn Q e (pQ D :: ds) w :=
 Oh ((hw.pick hp).cW) (h _ ((ll (hw.pick hp) _).tail))
def s9 (hi : Int) : List (Int × Int) -> Int -> List (Int × Int)
 | [], lo => [(lo, hi)]
 | x :: ws, lo => (if lo < x.1 then [(lo, x.1 - 1)] else []) ++ (if x.2 = hi then [] else s9 hi ws (x.2 + 1))
theorem NJ {r x : Int × Int} {rs : List (Int × Int)} {k : Nat} (h : (dB r rs)[k]? = some x) : x.1 <= x.2 /\ r.1 <= x.1 /\ x.2 <= r.2 := by
 have hm := gl h;unfold dB at hm;obtain ⟨h1, h2⟩ := Dn.1 hm;obtain ⟨y, _, rfl⟩ := dE.1 h1;unfold mo at h2 ⊢
 simp at h2 ⊢;omega
def adm (gs : List (Int × Int)) (k : Nat) (args : List Value) (_ : List aw) : Prop := ∃ x, gs[k]? = some x /\ args = [gQ (cp x)]
theorem Qa {α : Type} {l r : List α} {x : α} {g : Nat} (h : l.drop g = x :: r) : l[g]? = some x /\ l.drop (g + 1) = r /\ g < l.length := by
 have h1 : (l.drop g)[0]? = some x := by rw [h]; rfl
 rw [N3, Nat.add_zero] at h1;refine ⟨h1, ?_, (xu.1 h1).1⟩;rw [<-Rb, h]; rfl
theorem eF {α : Type} {l : List α} {k : Nat} {x : α} (h : l[k]? = some x) : l.drop k = x :: l.drop (k + 1) := by
 have hk := (xu.1 h).1;rw [Wd hk];rw [dm hk] at h;rw [Option.some.inj h]
theorem drop_nil {α : Type} {l : List α} {g : Nat} (h : l.drop g = []) (hg : g <= l.length) : g = l.length := by
 have := congrArg List.length h;rw [gT, JV] at this;omega
section
variable {G : Gh} {L R : List aw} {w : World}
theorem wh {q : Value} {a b : Int} (hw : an G L w) (hq : ∃ z, q = .pointer z) : Calls prog 273 #[q, .agg #[iQ a, iQ b]] w (bU fun r w' => ∃ b2 b3, r = .func (.func 327) #[] #[pQ b2, pQ b3] /\ an G (ah b2 [q] 111 :: ah b3 [iQ a, iQ b] 379 :: L) w') := by
 obtain ⟨z, rfl⟩ := hq;refine ad (args := [_, _]) func273 rfl ntmps273 rfl rfl ?_;refine z2 ?_;refine a9 rfl rfl rfl hw rfl fun w b2 hw => ?_;refine a9 rfl rfl rfl hw rfl fun w b3 hw => ?_;refine z4 ?_;refine gP (v1 := #[]) (v2 := #[pQ b2, pQ b3]) rfl (by intro z hz; simp at hz; rcases hz with rfl | rfl <;> exact ⟨_, rfl⟩) sM (by simp only [jM, cH, gE]; rfl) ?_;refine z3 ?_;exact aK rfl rfl rfl ⟨b2, b3, rfl, hw.b [ah b2 _ _, ah b3 _ _]⟩
def ac8 (Jo : Nat -> aw) (gs : List (Int × Int)) (ws : List (Int × Int)) (b : Int) (c3 b3 lo : Nat) (k : Nat) : aw :=
 ex fun z : Int × Nat => lZ (gs.drop z.2 = s9 b (ws.drop k) z.1 /\ z.2 <= gs.length /\ -1099511627776 <= z.1 /\ z.1 <= 1099511627777) (aV [Jo z.2, ah c3 [iQ z.1, iQ b] 379, ah b3 [.func (.yield lo) #[] #[]] 425])
theorem WD {rs : List (Int × Int)} {a b : Int} {c2 c3 qb : Nat} {v : Value} (aW : rs.length <= 1000000) (B6 : k9 (a, b)) : Bq prog 327 [pQ c2, pQ c3] G (ah c2 [pQ qb] 111 :: ah c3 [iQ a, iQ b] 379 :: ah qb [v] 377 :: row 379 2 v rs.length (rs.map cp).flatten :: L) w (s9 b (dB (a, b) rs) a).length (adm (s9 b (dB (a, b) rs) a)) (ah qb [v] 377 :: row 379 2 v rs.length (rs.map cp).flatten :: L) := by
 intro lo Jo Jx w hy hw;obtain ⟨gs, hgs⟩ : ∃ gs, gs = s9 b (dB (a, b) rs) a := ⟨_, rfl⟩;rw [<-hgs] at hy ⊢;have aed : -1099511627776 <= a /\ a <= 1099511627776 /\ -1099511627776 <= b /\ b <= 1099511627776 := B6;clear B6;refine ad (args := [_, _, _]) func327 rfl ntmps327 rfl rfl ?_;refine z2 ?_;refine a9 rfl rfl rfl hw rfl fun w b3 hw => ?_;refine z4 ?_;refine lD eA hw ?_;refine bt rfl rfl (ar.cU bA hw pK sM) ?_;refine al rfl lO rfl (mh hw ⟨_, rfl⟩) rfl fun w v7 hv => ?_;obtain ⟨w2, w3, rfl, hw⟩ := hv;refine z2 ?_;have hw := (hw.b [Jo 0, ah c3 _ _, ah b3 _ _, ah w2 _ _, ah w3 _ _, ah qb _ _, row _ _ _ _ _]);have hw := an.gh (F := fun z : Int × Nat => lZ (gs.drop z.2 = s9 b ((dB (a, b) rs).drop 0) z.1 /\ z.2 <= gs.length /\ -1099511627776 <= z.1 /\ z.1 <= 1099511627777) (aV [Jo z.2, ah c3 [iQ z.1, iQ b] 379, ah b3 [.func (.yield lo) #[] #[]] 425])) (a, 0) (an.fJ ⟨hgs, dy _, oM, oM⟩ (an.bz (M := [_, _, _]) hw));refine qI (e₀ := [(2, pQ c3), (3, pQ b3)]) (ac8 Jo gs (dB (a, b) rs) b c3 b3 lo) (ex fun q : Bool => if q = true then Jo gs.length else Jx) [] rfl kJ rfl sG rfl hw (fun k args M h => by obtain ⟨x, _, rfl⟩ := h; rfl) (Ja aW) ?_ ?_ ?_ ?_
 ·
  clear hw;intro l D1 o k args M w hk oJ hw;obtain ⟨x, hx, rfl⟩ := oJ;have me := NJ hx;simp only at me;obtain ⟨⟨z, g⟩, hw⟩ := an.fD hw;obtain ⟨hz, hw⟩ := an.eE hw;have hw := an.cF hw;simp only [iC, ie] at hw hz
  obtain ⟨WG, ZC, hz3, hz4⟩ := hz;rw [eF hx] at WG;unfold s9 at WG
  refine z1 ?_;refine aF rfl gu hw rfl fun w b4 hw => ?_;refine aT (cs := cp x) (l' := [iQ x.1, iQ x.2]) rfl tV rfl rfl bA rfl (by intro u hu; simp [cp] at hu; rcases hu with rfl | rfl <;> rfl) hw pK (by simp [cp]) rfl rfl (fun w hw => ?_);refine aC ?_;refine ⟨_, hw.pick (A := pt l o) pK, fun o' w hw => ?_⟩;refine z1 ?_;refine pS (fun e w => ∃ g' : Nat, e = [(2, pQ c3), (3, pQ b3), (4, pQ b4)] /\ (gs.drop g' = (if x.2 = b then [] else s9 b ((dB (a, b) rs).drop (k + 1)) (x.2 + 1)) /\ g' <= gs.length) /\ an G (Jo g' :: ah c3 [iQ z, iQ b] 379 :: ah b4 [iQ x.1, iQ x.2] 379 :: ah b3 [.func (.yield lo) #[] #[]] 425 :: pt l o' :: dG D1 :: M) w) ?_ ?_
  ·
   refine z3 ?_;refine lD ag hw ?_;refine z1 ?_;refine lD ag hw ?_;refine z2 ?_;refine ay (d := 14) rfl (fun h1 => ?_) fun h1 => ?_
   ·
    rw [ao oM] at WG;obtain ⟨hg1, hg2, hg3⟩ := Qa WG;refine lD kH hw ?_;refine z1 ?_;refine lD ag hw ?_;refine z1 ?_;refine lD ag hw ?_;refine Bv rfl rfl rfl oM ?_;refine aO (v := gQ (cp (z, x.1 - 1))) rfl rfl (fun w => kR) ?_;refine pk rfl rfl rfl (hy g _ _ w hg3 ⟨_, hg1, rfl⟩ (hw.pick (A := Jo _) pK)) rfl fun w VY hv => ?_;obtain ⟨bq, rfl, r9, zL⟩ := nD hv;refine jG rfl rfl ?_;refine z2 ?_;refine di rfl (fun h2 => ?_) fun h2 => ?_
    ·
     refine rL ?_;exact an.gh (F := fun q : Bool => if q = true then Jo gs.length else Jx) false (((zL (by simpa using h2)).b [ah b4 _ _, ah c3 _ _, ah b3 _ _, Jx, pt l _, dG D1]).tail.tail.tail)
    refine dS ?_;exact ⟨[(2, _), (3, _), (4, _)], sB, g + 1, rfl, ⟨hg2, hg3⟩, (r9 (by simpa using h2)).b [Jo _, ah c3 _ _, ah b4 _ _, ah b3 _ _, pt l _, dG D1]⟩
   rw [aj oM, ie] at WG;refine Ht ?_;refine cg rfl ?_;refine dS ?_;exact ⟨[(2, _), (3, _), (4, _)], sB, g, rfl, ⟨WG, ZC⟩, hw.b [Jo _, ah c3 _ _, ah b4 _ _, ah b3 _ _, pt l _, dG D1]⟩
  clear hw;rintro e w ⟨g', rfl, ⟨Nw, P1⟩, hw⟩;refine z4 ?_;refine lD ag hw ?_;refine z1 ?_;refine lD ag hw ?_;refine z2 ?_;refine aE rfl (fun h3 => ?_) fun h3 => ?_
  ·
   refine rL ?_;exact an.gh (F := fun q : Bool => if q = true then Jo gs.length else Jx) true (by rw [ao h3] at Nw; rw [drop_nil Nw P1] at hw; exact (hw.b [ah b4 _ _, ah c3 _ _, ah b3 _ _, Jo _, pt l _, dG D1]).tail.tail.tail)
  refine z3 ?_;refine lD ag hw ?_;refine z2 ?_;refine bu (l' := [_, _]) rfl tV rfl rfl ag rfl hw pK rfl rfl rfl fun w hw => ?_;refine aC ?_;rw [aj h3] at Nw;have hw := (hw.b [ah b4 _ _, Jo _, ah c3 _ _, ah b3 _ _, pt l _, dG D1]).tail;exact an.gh (F := fun z : Int × Nat => lZ (gs.drop z.2 = s9 b ((dB (a, b) rs).drop (k + 1)) z.1 /\ z.2 <= gs.length /\ -1099511627776 <= z.1 /\ z.1 <= 1099511627777) (aV [Jo z.2, ah c3 [iQ z.1, iQ b] 379, ah b3 [.func (.yield lo) #[] #[]] 425])) (x.2 + 1, g') (an.fJ ⟨Nw, P1, oM, oM⟩ (an.bz (M := [_, _, _]) hw))
 ·
  clear hw;intro D1 w hw;obtain ⟨⟨z, g⟩, hw⟩ := an.fD hw;obtain ⟨hz, hw⟩ := an.eE hw;have hw := an.cF hw;simp only [iC, ie] at hw hz;obtain ⟨WG, ZC, hz3, hz4⟩ := hz;rw [LD] at WG
  obtain ⟨hg1, hg2, hg3⟩ := Qa (show gs.drop g = (z, b) :: [] from WG);refine z1 ?_;refine lD kH hw ?_;refine bt rfl rfl (ar.cU bA hw pK sM) ?_;refine pk rfl rfl rfl (hy g [gQ (cp (z, b))] _ w hg3 ⟨_, hg1, rfl⟩ (hw.pick (A := Jo _) pK)) rfl fun w St hv => ?_;have hge := drop_nil hg2 hg3;have hw := hv.elim (fun h => an.gh (F := fun q : Bool => if q = true then Jo gs.length else Jx) true (by have h2 := h.2; rw [hge] at h2; exact h2)) (fun h => an.gh (F := fun q : Bool => if q = true then Jo gs.length else Jx) false h.2);refine aC ?_;refine bB rfl ?_;refine gz hw pK fun w hw => ?_;exact BT rfl (by
 obtain ⟨q, hw⟩ := an.fD hw;cases q
 ·have hw : an G (Jx :: _) w := hw;have hz := (hw.b [ah c3 _ _, ah b3 _ _, ah w2 _ _, ah w3 _ _, ah c2 _ _, Jx, ah qb _ _, row _ _ _ _ _]).tail.tail.tail.tail.tail;exact .inr hz
 ·have hw : an G (Jo gs.length :: _) w := hw;have hz := (hw.b [ah c3 _ _, ah b3 _ _, ah w2 _ _, ah w3 _ _, ah c2 _ _, Jo _, ah qb _ _, row _ _ _ _ _]).tail.tail.tail.tail.tail;exact .inl hz)
 ·
  clear hw;intro D1 w hw;refine bB rfl ?_;refine gz hw pK fun w hw => ?_;exact BT rfl (by
 obtain ⟨q, hw⟩ := an.fD hw;cases q
 ·have hw : an G (Jx :: _) w := hw;have hz := (hw.b [ah w2 _ _, ah w3 _ _, ah c2 _ _, Jx, ah qb _ _, row _ _ _ _ _]).tail.tail.tail;exact .inr hz
 ·have hw : an G (Jo gs.length :: _) w := hw;have hz := (hw.b [ah w2 _ _, ah w3 _ _, ah c2 _ _, Jo _, ah qb _ _, row _ _ _ _ _]).tail.tail.tail;exact .inl hz)
 intro id A hA; cases hA
end
section
variable {P : Program} {n : Nat} {ops : Array Oper} {dr : Bool} {done r : List Nat} {K : fm -> World -> Prop} {e : fm} {w : World} {i d : Nat} {t s s' : TypeId} {p : String} {af : Array Edge} {g : Option (Nat × Bool)} {x y : Operand} {G : Gh} {L R : List aw}
theorem Y4 {c : TypeId} {kn kq : IntKind} {z bytes k : Nat} (ho : ops[i]? = some ⟨some d, .call ⟨.builtin .append, #[x, y], #[s, s']⟩, t, p, af, g⟩) (hs : P.underlying s = some (.slice c)) (hs' : P.underlying s' = some (.int kn)) (uS : (P.info? c).map (·.size) = some z) (hz : 0 < z)
  (W4 : (P.info? c).map (·.bytes) = some bytes) (yj : (bD P c).map (·.size) = some z) (hx : ev e x = some (nQ)) (hy : ev e y = some (.int kq (k : Nat))) (hk : 0 < k) (hw : an G L w)
  (P5 : k <= maxLen) (P3 : k * bytes <= 140737488355328) (i' : gU P ops dr done i = [])
  (h : ∀ w' b cap cells, k <= cap -> cap <= maxLen -> cells.length = cap * z -> an G (ah b cells c :: L) w' -> XL P n ops dr (i :: done) r K ((d, sQ b k cap) :: e) w') (hd : Nat.blt d n = true := by exact rfl) (hg : Gd ops e g := by first | trivial | exact ⟨_, rfl, rfl⟩) : XL P n ops dr done (i :: r) K e w := by
 have ZV : k <= 9223372036854775807 := by simp only [maxLen] at P5; omega
 cases hi : P.info? c with
 | none => simp [hi] at uS
 | some inf =>
  have ed : inf.size = z := by simpa [hi] using uS
  have R0 : inf.bytes = bytes := by simpa [hi] using W4
  cases qw : inf.zero with
  | none => simp [bD, hi, qw] at yj
  | some zv =>
   have Ou : zv.cells.size = z := by simpa [bD, hi, qw] using yj
   have PV := Go.Lib.run_append_nil_zeros (P := P) w s s' t c inf zv kq kn hs hs' hi qw k hk oM oM (by rw [R0]; omega);have hge := grownCap_ge w k 0 c;have Nx : grownCap w k 0 c <= maxLen := grownCap_le_maxLen w k 0 c P5;have h2 := (hw.drawn (w.drawn + 1)).push (.cells (Builtin.zeroCells zv.cells k ++ Builtin.zeroCells zv.cells (grownCap w k 0 c - k)) c (0, 0));have e1 : Builtin.zeroCells zv.cells k ++ Builtin.zeroCells zv.cells (grownCap w k 0 c - k) = ((Builtin.zeroCells zv.cells k).toList ++ (Builtin.zeroCells zv.cells (grownCap w k 0 c - k)).toList).toArray := by apply Array.ext'; simp
   refine fU ho (by simpa [cy] using hd) hg (ρ := rh e) (by intro z hZ; simp [Op.operands, Call.operands] at hZ; exact CX hx hy hZ) rfl (v := .slice (some ⟨w.heap.size, 0, none⟩) k (grownCap w k 0 c)) (w' := w.drew.alloc (.cells (Builtin.zeroCells zv.cells k ++ Builtin.zeroCells zv.cells (grownCap w k 0 c - k)) c)) ?_ (fb i') (h _ _ _ ((Builtin.zeroCells zv.cells k).toList ++ (Builtin.zeroCells zv.cells (grownCap w k 0 c - k)).toList) hge Nx ?_ ?_)
   ·simp only [execOp, resolve, invoke, builtin, Sem.run_bind, Sem.run_pure, Result.andThen_ok, jM, cH, gE, bj hx, bj hy, PV]
   ·rw [de, Array.length_toList, Array.length_toList, size_zeroCells, size_zeroCells, Ou, <-BK]
    congr 1; omega
   rw [e1] at h2 ⊢; exact h2
theorem Bz {c : TypeId} {z bytes m : Nat} {v u : Value} {xs : List Value} {rs : List (List Value)} (ho : ops[i]? = some ⟨some d, .call ⟨.builtin .append, #[x, y], #[s, s]⟩, t, p, af, g⟩) (hs : P.underlying s = some (.slice c)) (uS : (P.info? c).map (·.size) = some z)
  (W4 : (P.info? c).map (·.bytes) = some bytes) (yj : (bD P c).map (·.size) = some z) (hx : ev e x = some v) (hy : ev e y = some u) (hw : an G L w) (hp : cG (row c z v m xs) L R) (hr : g7 z u rs w) (h1 : iR rs.flatten)
  (P5 : m + rs.length <= maxLen) (P3 : (m + rs.length) * bytes <= 140737488355328) (i' : gU P ops dr done i = [])
  (h : ∀ w' v', an G (row c z v' (m + rs.length) (xs ++ rs.flatten) :: R) w' -> XL P n ops dr (i :: done) r K ((d, v') :: e) w') (hd : Nat.blt d n = true := by exact rfl) (hg : Gd ops e g := by first | trivial | exact ⟨_, rfl, rfl⟩) : XL P n ops dr done (i :: r) K e w := by
 rcases hr with ⟨a, rfl, -, rfl⟩ | ⟨b, o, cap, rfl, h2, h3, h4⟩
 ·cases hi : P.info? c with
  | none => simp [hi] at uS
  | some inf =>
   have hle : ∃ a' c', v = .slice a' m c' /\ m <= c' := by
    obtain ⟨_, h | ⟨b, cap, cur, h, h', _⟩⟩ := lX (hw.pick hp)
    ·obtain ⟨rfl, rfl, _⟩ := h; exact ⟨none, 0, rfl, g8 _⟩
    exact ⟨_, cap, h, h'⟩
   obtain ⟨a', c', rfl, hle⟩ := hle;have hl : ∀ (x : Addr), (loadCells x 0).run P w = .ok #[] w := fun x => by simpa using run_loadCells_list (P := P) w x [] sM
   have PV : (Builtin.append_ #[s, s] t #[.slice a' m c', .slice a 0 0]).run P w = .ok (.slice a' m c') w := by
    cases a' <;> cases a <;> simp [Builtin.append_, run_underlying hs, Builtin.lenOf, Builtin.firstCells, sizeOf, typeInfo, hi, hle, storeCells, hl]
   refine fU ho (by simpa [cy] using hd) hg (ρ := rh e) (by intro z hZ; simp [Op.operands, Call.operands] at hZ; exact CX hx hy hZ) rfl (v := .slice a' m c') (w' := w) ?_ (fb i') (h _ _ (by simpa using hw.pick hp));simp only [execOp, resolve, invoke, builtin, Sem.run_bind, Sem.run_pure, Result.andThen_ok, jM, cH, gE, bj hx, bj hy, PV]
 exact fH (k := rs.length) (hd := hd) (hg := hg) ho hs uS W4 yj hx hy hw hp h4 (eu h3) h1 P5 P3 i' h
end
section
variable {G : Gh} {L R : List aw} {w : World}
theorem xK {k : Nat} (hw : an G L w) (h0 : 0 < k) (hk : k <= 1000000000) : Calls prog 329 #[nQ, iQ k] w (bU fun r w' => an G (row 379 2 r 0 [] :: L) w') := by
 refine ad (args := [_, _]) func329 rfl ntmps329 rfl rfl ?_;refine mN ?_;refine aE rfl (fun h1 => ?_) fun h1 => ?_
 ·
  exact absurd h1 oM
 refine z6 ?_;refine X5 rfl aR rfl ?_;refine z1 ?_;refine eJ rfl kR aR rfl ?_;refine z9 ?_;refine aE rfl (fun h3 => ?_) fun h3 => ?_
 ·
  refine z3 ?_;refine X5 rfl aR rfl ?_;refine u1 rfl aR rM rfl sM rfl ⟨oM, oM⟩ ?_;refine z1 ?_;refine Y4 (k := k) rfl aR cP bZ dM fO cX rfl (by show some (iQ ((k : Int))) = _; rfl) h0 hw mL oM rfl (fun w b22 cap cells W2 hc2 hc3 hw => ?_);refine z1 ?_;refine eJ rfl kR aR rfl ?_;refine u1 rfl aR rM rfl sM rfl ⟨oM, oM⟩ ?_;refine z8 ?_;exact aK rfl rfl rfl (oE (xs := []) (cur := cells) hw rfl (dy _) hc2 (by simpa using hc3))
 exact absurd h3 oM
def pw (ls : List (List (Int × Int))) : Nat := (ls.map List.length).sum
theorem IF (ls : List (List (Int × Int))) (l : List (Int × Int)) : pw (ls ++ [l]) = pw ls + l.length := by simp [pw]
theorem sU : ∀ (ls : List (List (Int × Int))) (k : Nat), pw (ls.take k) <= pw ls
 | [], k => by simp
 | l :: ls, 0 => by simp [pw]
 | l :: ls, k + 1 => by
  have := sU ls k;simp only [pw, LJ, cH, LB] at this ⊢;omega
theorem Ru (l : List (Int × Int)) : iR (l.map cp).flatten := fun u hu => by
 obtain ⟨r, hr, hu⟩ := List.mem_flatten.1 hu;obtain ⟨x, _, rfl⟩ := dE.1 hr;simp [cp] at hu;rcases hu with rfl | rfl <;> rfl
theorem cC {α : Type} {l : List α} {k : Nat} {x : α} (h : l[k]? = some x) : l.take (k + 1) = l.take k ++ [x] := by rw [Rf, h]; rfl
theorem uB {v : Value} {vs : List Value} {ls : List (List (Int × Int))} (hw : an G L w) (RO : aG L (qx v vs)) (hlen : vs.length = ls.length) (hvs : ∀ (k : Nat) (u : Value) (l : List (Int × Int)), vs[k]? = some u -> ls[k]? = some l -> aG L (g7 2 u (l.map cp))) (h0 : 0 < pw ls) (hk : pw ls <= 1000000000) (Yy : ls.length <= 1000000) :
  Calls prog 275 #[v] w (bU fun r w' => an G (row 379 2 r (pw ls) (ls.flatten.map cp).flatten :: L) w') := by
 obtain ⟨sa, sc, h1⟩ := (RO.at hw).form;subst h1;refine ad (args := [_]) func275 rfl ntmps275 rfl rfl ?_;refine yb ?_;refine eJ rfl kR fF rfl ?_;refine z3 ?_;refine bF (fun m e w => ∃ k : Nat, k <= ls.length /\ m = ls.length - k /\ e = [(0, .slice sa vs.length sc), (3, iQ (pw (ls.take k) : Nat)), (9, .slice sa vs.length sc), (10, iQ vs.length), (11, iQ k)] /\ an G L w)
  (m := ls.length) sB
  ⟨0, dy _, rfl, rfl, hw⟩ ?_
 rintro m e w ⟨k, Ax, rfl, rfl, hw⟩;refine z5 ?_;refine aE rfl (fun h1 => ?_) fun h1 => ?_
 ·
  have gK : k < ls.length := oM;obtain ⟨x, hx⟩ : ∃ x, ls[k]? = some x := ⟨_, dm gK⟩;obtain ⟨u, hu⟩ : ∃ u, vs[k]? = some u := ⟨_, dm oM⟩;have hku := hvs k u x hu hx;obtain ⟨ua, uc, h2, -, -⟩ := (hku.at hw).form;rw [bX] at h2;subst h2;have Ox : pw (ls.take (k + 1)) = pw (ls.take k) + x.length := by rw [cC hx]; exact IF _ _
  have Ei := sU ls (k + 1);obtain ⟨bb, oo, rfl⟩ := (RO.at hw).nn oM;refine z5 ?_;refine cR rfl fF lj rfl rfl ⟨oM, oM⟩ ?_;refine bt rfl rfl (ar.one c9 ((RO.at hw).at (by rw [ez]; exact hu))) ?_;refine z6 ?_;refine eJ rfl kR aR rfl ?_;refine z8 ?_;refine aE rfl (fun h2 => ?_) fun h2 => ?_
  ·
   exact absurd h2 oM
  refine z5 ?_;exact ⟨ls.length - (k + 1), oM, [(0, _), (3, iQ (pw (ls.take (k + 1)) : Nat)), (9, _), (10, _), (11, iQ (k + 1 : Nat))], xl.mk (fk.cons rfl (fk.cons (by rw [Ox]; rfl) (fk.cons rfl (fk.cons rfl (fk.cons rfl (fk.nil _)))))) rfl, k + 1, oM, rfl, rfl, hw⟩
 have pA : k = ls.length := oM;subst pA;rw [sX];refine z4 ?_;refine al rfl jf rfl (xK (k := pw ls) hw h0 hk) rfl fun w Sv hv => ?_;have hw : an G (row 379 2 Sv 0 [] :: _) w := hv;refine z6 ?_;refine eJ rfl kR fF rfl ?_;refine z3 ?_;refine bF (fun m e w => ∃ (k : Nat) (z : Value), k <= ls.length /\ m = ls.length - k /\ e = [(6, z), (25, .slice sa vs.length sc), (26, iQ vs.length), (27, iQ k)] /\ an G (row 379 2 z (pw (ls.take k)) ((ls.take k).flatten.map cp).flatten :: L) w)
  (m := ls.length) sB
  ⟨0, _, dy _, rfl, rfl, hw⟩ ?_
 rintro m e w ⟨k, z, Ax, rfl, rfl, hw⟩;refine z5 ?_;refine aE rfl (fun h3 => ?_) fun h3 => ?_
 ·
  have gK : k < ls.length := oM;obtain ⟨x, hx⟩ : ∃ x, ls[k]? = some x := ⟨_, dm gK⟩;obtain ⟨u, hu⟩ : ∃ u, vs[k]? = some u := ⟨_, dm oM⟩;have hku := hvs k u x hu hx;have Ox : pw (ls.take (k + 1)) = pw (ls.take k) + x.length := by rw [cC hx]; exact IF _ _
  have Ei := sU ls (k + 1);have W2 : ((ls.take (k + 1)).flatten.map cp).flatten = ((ls.take k).flatten.map cp).flatten ++ (x.map cp).flatten := by rw [cC hx]; simp
  obtain ⟨bb, oo, rfl⟩ := ((RO.of sF).at hw).nn oM;refine z5 ?_;refine cR rfl fF lj rfl rfl ⟨oM, oM⟩ ?_;refine bt rfl rfl (ar.one c9 (((RO.of sF).at hw).at (by rw [ez]; exact hu))) ?_;refine z5 ?_;refine Bz (m := pw (ls.take k)) (rs := x.map cp) rfl aR bZ fO cX rfl rfl hw pK ((hku.of sF).at hw) (Ru x) (by rw [bX]; simp only [maxLen]; omega) (by rw [bX]; omega) rfl (fun w v33 hw => ?_);refine z6 ?_;refine ⟨ls.length - (k + 1), oM, [(6, _), (25, _), (26, _), (27, iQ (k + 1 : Nat))], sB, k + 1, _, oM, rfl, rfl, ?_⟩;rw [Ox, W2];rw [bX] at hw;exact hw
 refine z7 ?_;exact aK rfl rfl rfl (by
 have pA : k = ls.length := oM;subst pA;rw [sX] at hw;exact hw)
end
structure Vd where
 below : List (Int × Int)
 cV : List (Int × Int)
 r : Int × Int
def fA (s : Vd) (x : Int × Int) : Vd :=
 if x.2 < s.r.1 /\ x.2 + 1 < s.r.1 then ⟨s.below ++ [x], s.cV, s.r⟩
 else if s.r.2 < x.1 /\ s.r.2 < x.1 - 1 then ⟨s.below, s.cV ++ [x], s.r⟩
 else ⟨s.below, s.cV, (min s.r.1 x.1, max s.r.2 x.2)⟩
def wQ (rs : List (Int × Int)) (lo hi : Int) : Vd := rs.foldl fA ⟨[], [], (lo, hi)⟩
def x6 (rs : List (Int × Int)) (lo hi : Int) : List (Int × Int) := (wQ rs lo hi).below ++ [(wQ rs lo hi).r] ++ (wQ rs lo hi).cV
theorem Sk (rs : List (Int × Int)) (x : Int × Int) (lo hi : Int) : wQ (rs ++ [x]) lo hi = fA (wQ rs lo hi) x := by unfold wQ; rw [List.foldl_append]; rfl
theorem JC {rs : List (Int × Int)} {k : Nat} {x : Int × Int} (lo hi : Int) (hx : rs[k]? = some x) : wQ (rs.take (k + 1)) lo hi = fA (wQ (rs.take k) lo hi) x := by rw [cC hx, Sk]
structure abQ (n : Nat) (s : Vd) : Prop where
 r : k9 s.r
 b : s.below.length + s.cV.length <= n
theorem YR {lo hi : Int} (h : k9 (lo, hi)) {rs : List (Int × Int)} (HB : ∀ x ∈ rs, k9 x) : ∀ k, k <= rs.length -> abQ k (wQ (rs.take k) lo hi) := by
 intro k
 induction k with
 | zero => intro _; exact ⟨h, by simp [wQ]⟩
 | succ k ih =>
  intro hk;have tX := ih oM;obtain ⟨x, hx⟩ : ∃ x, rs[k]? = some x := ⟨_, dm oM⟩;have me := HB x (gl hx);rw [JC lo hi hx];obtain ⟨h1, h2⟩ := tX;unfold fA
  repeat' split
  ·exact ⟨h1, by simp; omega⟩
  ·exact ⟨h1, by simp; omega⟩
  refine ⟨?_, by simp; omega⟩;unfold k9 at h1 me ⊢;simp only;omega
section
variable {G : Gh} {L R : List aw} {w : World}
theorem o0 {qb : Nat} {v : Value} {rs : List (Int × Int)} {lo hi : Int} (hw : an G (ah qb [v] 377 :: row 379 2 v rs.length (rs.map cp).flatten :: L) w) (hlh : lo <= hi) (aW : k9 (lo, hi)) (HB : ∀ x ∈ rs, k9 x) (SA : rs.length <= 100000) :
  Calls prog 210 #[pQ qb, iQ lo, iQ hi] w (bU fun r w' => (∃ n, r = iQ n) /\ ∃ v', an G (ah qb [v'] 377 :: row 379 2 v' (x6 rs lo hi).length ((x6 rs lo hi).map cp).flatten :: L) w') := by
 obtain ⟨va, vc, rfl⟩ := aP (hw.pick (A := row _ _ v _ _) pK);have iv : aG (row 379 2 (.slice va rs.length vc) rs.length (rs.map cp).flatten :: L) (g7 2 (.slice va rs.length vc) (rs.map cp)) := (g7.row sM (BH rs)).head _;refine ad (args := [_, _, _]) func210 rfl ntmps210 rfl rfl ?_;refine Ht ?_;refine aE rfl (fun h1 => ?_) fun h1 => ?_
 ·
  exact absurd h1 oM
 refine z5 ?_;refine aO (v := gQ (cp (lo, hi))) rfl rfl (fun w => kR) ?_;refine aF rfl gu hw rfl fun w b7 hw => ?_;refine aT (cs := cp (lo, hi)) (l' := cp (lo, hi)) rfl tV rfl rfl bA rfl (by intro u hu; simp [cp] at hu; rcases hu with rfl | rfl <;> rfl) hw pK (by simp [cp]) rfl kR (fun w hw => ?_);refine z3 ?_;refine aF rfl CM hw rfl fun w b8 hw => ?_;refine bu (l' := [.int .u64 0]) rfl tV rfl rfl f' rfl hw pK rfl rfl rfl fun w hw => ?_;refine z5 ?_;refine bt rfl rfl (ar.cU bA hw pK (by simp [cp])) ?_;refine al rfl uO rfl (wh hw ⟨_, rfl⟩) rfl fun w VY hv => ?_;obtain ⟨c2, c3, rfl, hw⟩ := hv;refine z2 ?_;have hw := an.gh (F := fun n : Int => ah b8 [.int .u64 n] 380) 0 (hw.b [ah b8 _ _, ah c2 _ _, ah c3 _ _, ah qb _ _, row _ _ _ _ _, ah b7 _ _]);refine qI (e₀ := [(8, pQ b8)]) (fun _ => ex fun n : Int => ah b8 [.int .u64 n] 380) (fun _ => False) [] rfl sA rfl sG rfl hw (fun k args M h => by obtain ⟨x, _, rfl⟩ := h; rfl) (WD oM aW) ?_ ?_ ?_ ?_
 ·
  clear hw;intro l D1 o k args M w hk oJ hw;obtain ⟨x, hx, rfl⟩ := oJ;obtain ⟨n, hw⟩ := an.fD hw;refine z1 ?_;refine aF rfl gu hw rfl fun w b9 hw => ?_;refine aT (cs := cp x) (l' := [iQ x.1, iQ x.2]) rfl tV rfl rfl bA rfl (by intro u hu; simp [cp] at hu; rcases hu with rfl | rfl <;> rfl) hw pK (by simp [cp]) rfl rfl (fun w hw => ?_);refine aC ?_;refine ⟨_, hw.pick (A := pt l o) pK, fun o' w hw => ?_⟩;refine z2 ?_;refine lD f' hw ?_;refine bt rfl rfl (ar.cU bA hw pK sM) ?_;refine al rfl q3 rfl (sj hw) rfl fun w Zb hv => ?_;obtain ⟨⟨m', rfl⟩, hw⟩ := hv;refine bu (l' := [.int .u64 m']) rfl tV rfl rfl f' rfl hw pK rfl rfl rfl fun w hw => ?_;refine aC ?_;exact an.gh m' (hw.b [ah b9 _ _, ah b8 _ _, pt l _, dG D1]).tail
 ·
  clear hw;intro D1 w hw;obtain ⟨n, hw⟩ := an.fD hw;refine Ht ?_;refine lD c9 hw ?_;refine eJ rfl kR aR rfl ?_;refine z3 ?_;have hw := bI (bI hw 379 2) 379 2;have hw := hw.b [ah b7 _ _, row _ _ (nQ) _ _, row _ _ (nQ) _ _, ah b8 _ _, dG D1, ah qb _ _, row _ _ _ _ _];refine bF (fun m e w => ∃ (k : Nat) (v1 v2 : Value), k <= rs.length /\ m = rs.length - k /\ e = [(1000000000, pQ D1), (0, pQ qb), (7, pQ b7), (8, pQ b8), (10, v1), (11, v2), (30, .slice va rs.length vc), (31, iQ rs.length), (32, iQ k)] /\ an G (ah b7 (cp (wQ (rs.take k) lo hi).r) 379 :: row 379 2 v1 (wQ (rs.take k) lo hi).below.length ((wQ (rs.take k) lo hi).below.map cp).flatten :: row 379 2 v2 (wQ (rs.take k) lo hi).cV.length ((wQ (rs.take k) lo hi).cV.map cp).flatten :: ah b8 [.int .u64 n] 380 :: dG D1 :: ah qb [.slice va rs.length vc] 377 :: row 379 2 (.slice va rs.length vc) rs.length (rs.map cp).flatten :: L) w)
   (m := rs.length) sB
   ⟨0, _, _, dy _, rfl, rfl, hw⟩ ?_
  rintro m e w ⟨k, v1, v2, hk, rfl, rfl, hw⟩;have hao := YR aW HB k hk;have jB := fun x hx => JC (rs := rs) (k := k) (x := x) lo hi hx
  obtain ⟨S, hS⟩ : ∃ S, S = wQ (rs.take k) lo hi := ⟨_, rfl⟩;rw [<-hS] at hao hw jB;obtain ⟨hr, s8⟩ := hao;unfold k9 at hr
  refine z5 ?_;refine aE rfl (fun h2 => ?_) fun h2 => ?_
  ·
   have gK : k < rs.length := oM;obtain ⟨x, hx⟩ : ∃ x, rs[k]? = some x := ⟨_, dm gK⟩;have me := HB x (gl hx);unfold k9 at me;have tU : (rs.map cp)[k]? = some (cp x) := by rw [dg, hx]; rfl
   have jB := jB x hx;unfold fA at jB;obtain ⟨bb, oo, rfl⟩ := ((iv.of sF).at hw).nn (by rw [bX]; omega);refine z5 ?_;refine eY rfl aR bZ rfl rfl ⟨oM, oM⟩ ?_;refine bt rfl rfl (ar.many bA rfl (by rw [ez]; exact ((iv.of sF).at hw).at tU)) ?_;refine aF rfl gu hw rfl fun w b13 hw => ?_;refine aT (cs := cp x) (l' := [iQ x.1, iQ x.2]) rfl tV rfl rfl bA rfl (by intro u hu; simp [cp] at hu; rcases hu with rfl | rfl <;> rfl) hw pK (by simp [cp]) rfl rfl (fun w hw => ?_);refine z5 ?_;refine lD ag hw ?_;refine z1 ?_;refine lD ag hw ?_;refine z2 ?_;refine cu (l1 := [6, 7, 8, 9, 10, 11, 12]) (l2 := [13]) rfl (d := 61) (x.2 < S.r.1 /\ x.2 + 1 < S.r.1) rfl ?_ ?_
   ·
    refine ay (d := 54) rfl (fun h3 => ?_) fun h3 => ?_
    ·
     refine z1 ?_;refine lD ag hw ?_;refine BA rfl rfl rfl oM ?_;refine z1 ?_;refine lD ag hw ?_;refine z3 ?_;refine cQ ?_;exact dC
    refine z8 ?_;refine cQ ?_;exact dC
   refine z2 ?_;refine aE rfl (fun h4 => ?_) fun h4 => ?_
   ·
    refine z2 ?_;refine bt rfl rfl (ar.cU bA hw pK sM) ?_;refine fG (cs := cp x) rfl aR bZ cX dM rfl rfl rfl hw rfl fun w b64 hw => ?_;refine fH (m := S.below.length) (k := 1) (news := cp x) rfl aR bZ fO cX rfl rfl hw (show cG (row 379 2 v1 _ _) _ _ from pK) (Rd.jE hw pK) rfl (by intro u hu; simp [cp] at hu; rcases hu with rfl | rfl <;> rfl) mL oM rfl (fun w X7 hw => ?_);refine z6 ?_;refine ⟨rs.length - (k + 1), oM, [(1000000000, _), (0, _), (7, _), (8, _), (10, _), (11, _), (30, _), (31, _), (32, iQ (k + 1 : Nat))], sB, k + 1, _, _, oM, rfl, rfl, ?_⟩;rw [jB, ao h4];have e1 : ((S.below ++ [x]).map cp).flatten = (S.below.map cp).flatten ++ cp x := by simp
    simp only [de, mG, e1];exact (hw.b [ah b64 _ _, ah b13 _ _, ah b7 _ _, row _ _ X7 _ _, row _ _ v2 _ _, ah b8 _ _, dG D1, ah qb _ _, row _ _ _ _ _]).tail.tail
   refine z3 ?_;refine lD ag hw ?_;refine z1 ?_;refine lD ag hw ?_;refine z2 ?_;refine cu (l1 := [6, 7, 8, 9, 10, 11, 12]) (l2 := [13]) rfl (d := 79) (S.r.2 < x.1 /\ S.r.2 < x.1 - 1) rfl ?_ ?_
   ·
    refine ay (d := 72) rfl (fun h5 => ?_) fun h5 => ?_
    ·
     refine z1 ?_;refine lD ag hw ?_;refine Bv rfl rfl rfl oM ?_;refine z1 ?_;refine lD ag hw ?_;refine z3 ?_;refine cQ ?_;exact dC
    refine z8 ?_;refine cQ ?_;exact dC
   refine z2 ?_;refine aE rfl (fun h6 => ?_) fun h6 => ?_
   ·
    refine z2 ?_;refine bt rfl rfl (ar.cU bA hw pK sM) ?_;refine fG (cs := cp x) rfl aR bZ cX dM rfl rfl rfl hw rfl fun w b82 hw => ?_;refine fH (m := S.cV.length) (k := 1) (news := cp x) rfl aR bZ fO cX rfl rfl hw (show cG (row 379 2 v2 _ _) _ _ from pK) (Rd.jE hw pK) rfl (by intro u hu; simp [cp] at hu; rcases hu with rfl | rfl <;> rfl) mL oM rfl (fun w VW hw => ?_);refine z6 ?_;refine ⟨rs.length - (k + 1), oM, [(1000000000, _), (0, _), (7, _), (8, _), (10, _), (11, _), (30, _), (31, _), (32, iQ (k + 1 : Nat))], sB, k + 1, _, _, oM, rfl, rfl, ?_⟩;rw [jB, aj h4, ao h6];have e1 : ((S.cV ++ [x]).map cp).flatten = (S.cV.map cp).flatten ++ cp x := by simp
    simp only [de, mG, e1];exact (hw.b [ah b82 _ _, ah b13 _ _, ah b7 _ _, row _ _ v1 _ _, row _ _ VW _ _, ah b8 _ _, dG D1, ah qb _ _, row _ _ _ _ _]).tail.tail
   refine bd [0, 1, 2, 3, 4, 5, 6, 7, 8, 9, 10, 11, 12, 13] bJ kR ?_;replace hw := hw.drawn (w.drawn + 1);refine z1 ?_;refine lD ag hw ?_;refine z1 ?_;refine lD ag hw ?_;refine uZ rfl rfl rfl ?_;refine z1 ?_;refine lD ag hw ?_;refine z1 ?_;refine lD ag hw ?_;refine JJ rfl rfl rfl ?_;refine z1 ?_;refine sN (l' := [_, _]) rfl tV rfl rfl ag rfl hw pK rfl rfl (fun w hw q' hq => ?_) fun w hw => ?_
   ·
    have hq := bm (l := [8]) kR hq;simp only [bQ, dz, or_false] at hq;subst hq;exact bx rfl rfl rfl (ar.bL ag hw pK rfl)
   refine z1 ?_;refine bu (l' := [_, _]) rfl tV rfl rfl ag rfl hw pK rfl rfl kR fun w hw => ?_;refine z5 ?_;refine ⟨rs.length - (k + 1), oM, [(1000000000, _), (0, _), (7, _), (8, _), (10, _), (11, _), (30, _), (31, _), (32, iQ (k + 1 : Nat))], sB, k + 1, _, _, oM, rfl, rfl, ?_⟩;rw [jB, aj h4, aj h6];have hz := (hw.b [ah b13 _ _, ah b7 _ _, row _ _ v1 _ _, row _ _ v2 _ _, ah b8 _ _, dG D1, ah qb _ _, row _ _ _ _ _]).tail;exact hz
  have pA : k = rs.length := oM;subst pA;rw [sX] at hS;obtain ⟨a1, c1, rfl⟩ := aP (hw.pick (A := row _ _ v1 _ _) pK);obtain ⟨a2, c2', rfl⟩ := aP (hw.pick (A := row _ _ v2 _ _) pK);refine z5 ?_;refine bt rfl rfl (ar.cU bA hw pK (by simp [cp])) ?_;refine fG (cs := cp S.r) rfl aR bZ cX dM rfl rfl rfl hw rfl fun w b88 hw => ?_;have hw := gS (z := 2) (m := 1) hw rfl mL;refine z1 ?_;refine Is (cs := [.slice a1 S.below.length c1, sQ b88 1 1, .slice a2 S.cV.length c2']) rfl fF lj zQ dM rfl kR hw rfl fun w b90 hw => ?_;have hw := gS (z := 1) (m := 3) hw rfl mL;refine al rfl iw rfl (uB (vs := [.slice a1 S.below.length c1, sQ b88 1 1, .slice a2 S.cV.length c2']) (ls := [S.below, [S.r], S.cV]) hw (qx.row.head _) rfl (fun k u l hu hl => by
 match k, hu, hl with
 | 0, hu, hl =>
  obtain rfl := Option.some.inj hu; obtain rfl := Option.some.inj hl;exact ((g7.row (T := 379) (m := S.below.length) sM (BH S.below)).head _).of sF
 | 1, hu, hl =>
  obtain rfl := Option.some.inj hu; obtain rfl := Option.some.inj hl;exact ((g7.row (T := 379) (m := 1) (rs := [cp S.r]) sM (by intro r hr; simp at hr; subst hr; rfl)).head _).of sF
 | 2, hu, hl =>
  obtain rfl := Option.some.inj hu; obtain rfl := Option.some.inj hl;exact ((g7.row (T := 379) (m := S.cV.length) sM (BH S.cV)).head _).of sF
 | k + 3, hu, hl => simp at hu) (by simp [pw]; omega) (by simp [pw]; omega) sM) rfl (fun w v91 hv => ?_)
  have hw : an G (row 379 2 v91 _ _ :: _) w := hv;obtain ⟨a91, c91, rfl⟩ := aP hw;refine z2 ?_;refine bu (l' := [_]) rfl tV rfl rfl c9 rfl hw pK rfl rfl rfl fun w hw => ?_;refine z3 ?_;refine lD f' hw ?_;refine By rfl kR q8 cP rfl ?_;refine z3 ?_;refine bB rfl ?_;refine gz hw pK fun w hw => ?_;exact p6 rfl rfl (by
 refine ⟨⟨_, rfl⟩, .slice a91 (pw [S.below, [S.r], S.cV]) c91, ?_⟩;have e1 : x6 rs lo hi = [S.below, [S.r], S.cV].flatten := by unfold x6; rw [<-hS]; simp
 have e2 : (x6 rs lo hi).length = pw [S.below, [S.r], S.cV] := by rw [e1]; simp [pw]; omega
 rw [e2, e1];exact (hw.b [row 375 _ _ _ _, row _ _ (sQ b88 _ _) _ _, ah b7 _ _, row _ _ (.slice a1 S.below.length c1) _ _, row _ _ (.slice a2 S.cV.length c2') _ _, ah b8 _ _, row _ _ (.slice va rs.length vc) _ _, ah qb _ _, row _ _ (.slice a91 _ c91) _ _]).tail.tail.tail.tail.tail.tail.tail)
 ·
  clear hw; intro D w hw; exact (gC hw).elim fun _ h => h.1.elim
 intro id A hA; cases hA
end
def vj (lo hi : Int) (x : Int × Int) : List (Int × Int) :=
 if x.2 < lo \/ hi < x.1 then [x] else (if x.1 < lo then [(x.1, lo - 1)] else []) ++ (if hi < x.2 then [(hi + 1, x.2)] else [])
def vi (rs : List (Int × Int)) (lo hi : Int) : List (Int × Int) := rs.flatMap (vj lo hi)
def aa4 : List (Int × Int) -> Value
 | [] => .tuple #[iQ 0, .bool false]
 | x :: _ => .tuple #[iQ x.1, .bool true]
theorem Q7 {rs : List (Int × Int)} {k : Nat} {x : Int × Int} (lo hi : Int) (hx : rs[k]? = some x) : vi (rs.take (k + 1)) lo hi = vi (rs.take k) lo hi ++ vj lo hi x := by
 unfold vi; rw [cC hx, LK]; simp
theorem NS (lo hi : Int) (x : Int × Int) : (vj lo hi x).length <= 2 := by unfold vj; repeat' split <;> simp
theorem Lz (lo hi : Int) : ∀ rs : List (Int × Int), (vi rs lo hi).length <= 2 * rs.length
 | [] => by simp [vi]
 | x :: rs => by
  have h1 := Lz lo hi rs;have h2 := NS lo hi x;simp only [vi, LG, de, g5] at h1 ⊢;omega
section
variable {G : Gh} {L R : List aw} {w : World}
theorem DP (hw : an G L w) : Calls prog 209 #[nQ] w (bU fun r w' => ∃ qb, r = pQ qb /\ an G (ah qb [nQ] 377 :: row 379 2 (nQ) 0 [] :: L) w') := by
 refine ad (args := [_]) func209 rfl ntmps209 rfl rfl ?_;refine z6 ?_;refine aO (v := .agg #[nQ]) rfl rfl (fun w => kR) ?_;refine a9 rfl rfl rfl hw rfl fun w b7 hw => ?_;refine mN ?_;refine bF (fun m e w => m = 0 /\ e = [(3, pQ b7), (9, iQ 0), (10, iQ 0)] /\ an G (ah b7 [nQ] 377 :: L) w)
  (m := 0) sB
  ⟨rfl, rfl, hw⟩ ?_
 rintro m e w ⟨rfl, rfl, hw⟩;refine z5 ?_;refine aE rfl (fun h1 => ?_) fun h1 => ?_
 ·
  exact absurd h1 oM
 refine z7 ?_;exact aK rfl rfl rfl ⟨b7, rfl, (bI hw 379 2).b [ah b7 _ _, row _ _ _ _ _]⟩
theorem tt {qb : Nat} {v : Value} {rs : List (Int × Int)} (hw : an G (ah qb [v] 377 :: row 379 2 v rs.length (rs.map cp).flatten :: L) w) :
  Calls prog 315 #[pQ qb] w (bU fun r w' => r = aa4 rs /\ an G (ah qb [v] 377 :: row 379 2 v rs.length (rs.map cp).flatten :: L) w') := by
 obtain ⟨va, vc, rfl⟩ := aP (hw.pick (A := row _ _ v _ _) pK);have iv : aG (row 379 2 (.slice va rs.length vc) rs.length (rs.map cp).flatten :: L) (g7 2 (.slice va rs.length vc) (rs.map cp)) := (g7.row sM (BH rs)).head _;refine ad (args := [_]) func315 rfl ntmps315 rfl rfl ?_;refine Ht ?_;refine lD c9 hw ?_;refine eJ rfl kR aR rfl ?_;refine z2 ?_;refine aE rfl (fun h1 => ?_) fun h1 => ?_
 ·
  refine z6 ?_;exact cz rfl rfl rfl rfl ⟨by
 cases rs with
 | nil => rfl
 | cons x r => simp only [g5] at h1; omega, hw⟩
 obtain ⟨x, rs', rfl⟩ : ∃ x rs', rs = x :: rs' := by cases rs with
  | nil => exact absurd rfl h1
  | cons x r => exact ⟨x, r, rfl⟩
 obtain ⟨bb, oo, rfl⟩ := ((iv.of sF).at hw).nn sM;refine z6 ?_;refine lD c9 hw ?_;refine eY rfl aR bZ rfl rfl ⟨oM, by simp⟩ ?_;refine cS rfl qS rfl ?_;refine bt rfl rfl (ar.one ag (((iv.of sF).at hw).cell (k := 0) (j := 0) (r := cp x) rfl rfl)) ?_;refine z4 ?_;exact cz rfl rfl rfl rfl ⟨rfl, hw⟩
theorem tr {qb : Nat} {v : Value} {rs : List (Int × Int)} {lo hi : Int} (hw : an G (ah qb [v] 377 :: row 379 2 v rs.length (rs.map cp).flatten :: L) w) (hlh : lo <= hi) (aW : k9 (lo, hi)) (SA : rs.length <= 100000) :
  Calls prog 326 #[pQ qb, iQ lo, iQ hi] w (bU fun r w' => (∃ n, r = iQ n) /\ ∃ v', an G (ah qb [v'] 377 :: row 379 2 v' (vi rs lo hi).length ((vi rs lo hi).map cp).flatten :: L) w') := by
 obtain ⟨va, vc, rfl⟩ := aP (hw.pick (A := row _ _ v _ _) pK);have iv : aG (row 379 2 (.slice va rs.length vc) rs.length (rs.map cp).flatten :: L) (g7 2 (.slice va rs.length vc) (rs.map cp)) := (g7.row sM (BH rs)).head _;have Mk := aW;unfold k9 at Mk;simp only at Mk
 refine ad (args := [_, _, _]) func326 rfl ntmps326 rfl rfl ?_;refine Ht ?_;refine aE rfl (fun h1 => ?_) fun h1 => ?_
 ·
  exact absurd h1 oM
 refine z3 ?_;refine aF rfl CM hw rfl fun w b7 hw => ?_;refine bu (l' := [.int .u64 0]) rfl tV rfl rfl f' rfl hw pK rfl rfl rfl fun w hw => ?_;refine z7 ?_;refine aO (v := .agg #[iQ lo, iQ hi]) rfl rfl (fun w => kR) ?_;refine al rfl lO rfl (mh hw ⟨_, rfl⟩) rfl fun w Sw hv => ?_;obtain ⟨c2, c3, rfl, hw⟩ := hv;refine z2 ?_;have hw := an.gh (F := fun n : Int => ah b7 [.int .u64 n] 380) 0 (hw.b [ah b7 _ _, ah c2 _ _, ah c3 _ _, ah qb _ _, row _ _ _ _ _]);refine qI (e₀ := [(7, pQ b7)]) (fun _ => ex fun n : Int => ah b7 [.int .u64 n] 380) (fun _ => False) [] rfl kJ rfl sG rfl hw (fun k args M h => by obtain ⟨x, _, rfl⟩ := h; rfl) (Ja oM) ?_ ?_ ?_ ?_
 ·
  clear hw;intro l D1 o k args M w hk oJ hw;obtain ⟨x, hx, rfl⟩ := oJ;obtain ⟨n, hw⟩ := an.fD hw;refine z1 ?_;refine aF rfl gu hw rfl fun w b8 hw => ?_;refine aT (cs := cp x) (l' := [iQ x.1, iQ x.2]) rfl tV rfl rfl bA rfl (by intro u hu; simp [cp] at hu; rcases hu with rfl | rfl <;> rfl) hw pK (by simp [cp]) rfl rfl (fun w hw => ?_);refine aC ?_;refine ⟨_, hw.pick (A := pt l o) pK, fun o' w hw => ?_⟩;refine z2 ?_;refine lD f' hw ?_;refine bt rfl rfl (ar.cU bA hw pK sM) ?_;refine al rfl q3 rfl (sj hw) rfl fun w v23 hv => ?_;obtain ⟨⟨m', rfl⟩, hw⟩ := hv;refine bu (l' := [.int .u64 m']) rfl tV rfl rfl f' rfl hw pK rfl rfl rfl fun w hw => ?_;refine aC ?_;exact an.gh m' (hw.b [ah b8 _ _, ah b7 _ _, pt l _, dG D1]).tail
 ·
  clear hw;intro D1 w hw;obtain ⟨n, hw⟩ := an.fD hw;refine mN ?_;refine lD c9 hw ?_;refine eJ rfl kR aR rfl ?_;refine z3 ?_;have hw := bI hw 379 2;have hw := (hw.b [ah c2 _ _, ah c3 _ _, row _ _ (nQ) _ _, ah b7 _ _, dG D1, ah qb _ _, row _ _ _ _ _]).tail.tail;refine bF (fun m e w => ∃ (k : Nat) (v1 : Value), k <= rs.length /\ m = rs.length - k /\ e = [(1000000000, pQ D1), (0, pQ qb), (1, iQ lo), (2, iQ hi), (7, pQ b7), (9, v1), (27, .slice va rs.length vc), (28, iQ rs.length), (29, iQ k)] /\ an G (row 379 2 v1 (vi (rs.take k) lo hi).length ((vi (rs.take k) lo hi).map cp).flatten :: ah b7 [.int .u64 n] 380 :: dG D1 :: ah qb [.slice va rs.length vc] 377 :: row 379 2 (.slice va rs.length vc) rs.length (rs.map cp).flatten :: L) w)
   (m := rs.length) sB
   ⟨0, _, dy _, rfl, rfl, hw⟩ ?_
  rintro m e w ⟨k, v1, hk, rfl, rfl, hw⟩;have Ur := Lz lo hi (rs.take k);rw [fB] at Ur;have jB := fun x hx => Q7 (rs := rs) (k := k) (x := x) lo hi hx
  obtain ⟨S, hS⟩ : ∃ S, S = vi (rs.take k) lo hi := ⟨_, rfl⟩;rw [<-hS] at Ur hw jB;refine z5 ?_;refine aE rfl (fun h2 => ?_) fun h2 => ?_
  ·
   have gK : k < rs.length := oM;obtain ⟨x, hx⟩ : ∃ x, rs[k]? = some x := ⟨_, dm gK⟩;have tU : (rs.map cp)[k]? = some (cp x) := by rw [dg, hx]; rfl
   have jB := jB x hx;unfold vj at jB;obtain ⟨bb, oo, rfl⟩ := ((iv.of sF).at hw).nn (by rw [bX]; omega);refine z5 ?_;refine eY rfl aR bZ rfl rfl ⟨oM, oM⟩ ?_;refine bt rfl rfl (ar.many bA rfl (by rw [ez]; exact ((iv.of sF).at hw).at tU)) ?_;refine aF rfl gu hw rfl fun w mB hw => ?_;refine aT (cs := cp x) (l' := [iQ x.1, iQ x.2]) rfl tV rfl rfl bA rfl (by intro u hu; simp [cp] at hu; rcases hu with rfl | rfl <;> rfl) hw pK (by simp [cp]) rfl rfl (fun w hw => ?_);refine z5 ?_;refine lD ag hw ?_;refine z3 ?_;refine cu (l1 := [5, 6, 7, 8, 9]) (l2 := []) rfl (d := 42) (x.2 < lo \/ hi < x.1) rfl ?_ ?_
   ·
    refine ay (d := 37) rfl (fun h3 => ?_) fun h3 => ?_
    ·
     refine z6 ?_;refine cQ ?_;exact dC
    refine z1 ?_;refine lD ag hw ?_;refine z4 ?_;refine cQ ?_;exact dC
   refine aC ?_;refine aE rfl (fun h4 => ?_) fun h4 => ?_
   ·
    refine z3 ?_;refine bt rfl rfl (ar.cU bA hw pK sM) ?_;refine fG (cs := cp x) rfl aR bZ cX dM rfl rfl rfl hw rfl fun w b45 hw => ?_;refine fH (m := S.length) (k := 1) (news := cp x) rfl aR bZ fO cX rfl rfl hw (show cG (row 379 2 v1 _ _) _ _ from pK) (Rd.jE hw pK) rfl (by intro u hu; simp [cp] at hu; rcases hu with rfl | rfl <;> rfl) mL oM rfl (fun w v46 hw => ?_);refine z7 ?_;refine ⟨rs.length - (k + 1), oM, [(1000000000, _), (0, _), (1, _), (2, _), (7, _), (9, _), (27, _), (28, _), (29, iQ (k + 1 : Nat))], sB, k + 1, _, oM, rfl, rfl, ?_⟩;rw [jB, ao h4];have e1 : ((S ++ [x]).map cp).flatten = (S.map cp).flatten ++ cp x := by simp
    simp only [de, mG, e1];exact (hw.b [ah b45 _ _, ah mB _ _, row _ _ v46 _ _, ah b7 _ _, dG D1, ah qb _ _, row _ _ _ _ _]).tail.tail
   rw [aj h4] at jB;refine dS ?_;refine pS (fun e w => ∃ (v2 : Value) (S' : List (Int × Int)), e = [(1000000000, pQ D1), (0, pQ qb), (1, iQ lo), (2, iQ hi), (7, pQ b7), (9, v2), (11, pQ mB), (27, .slice (some ⟨bb, oo, none⟩) rs.length vc), (28, iQ rs.length), (29, iQ k)] /\ (S' = S ++ (if x.1 < lo then [(x.1, lo - 1)] else []) /\ S'.length <= S.length + 1) /\ an G (row 379 2 v2 S'.length (S'.map cp).flatten :: ah mB [iQ x.1, iQ x.2] 379 :: ah b7 [.int .u64 n] 380 :: dG D1 :: ah qb [.slice (some ⟨bb, oo, none⟩) rs.length vc] 377 :: row 379 2 (.slice (some ⟨bb, oo, none⟩) rs.length vc) rs.length (rs.map cp).flatten :: L) w) ?_ ?_
   ·
    refine z3 ?_;refine lD ag hw ?_;refine z3 ?_;refine aE rfl (fun h5 => ?_) fun h5 => ?_
    ·
     refine z3 ?_;refine lD ag hw ?_;refine z2 ?_;refine aO (v := gQ (cp (x.1, lo - 1))) rfl rfl (fun w => kR) ?_;refine fG (cs := cp (x.1, lo - 1)) rfl aR bZ cX dM rfl rfl rfl hw rfl fun w b57 hw => ?_;refine fH (m := S.length) (k := 1) (news := cp (x.1, lo - 1)) rfl aR bZ fO cX rfl rfl hw (show cG (row 379 2 v1 _ _) _ _ from pK) (Rd.jE hw pK) rfl (by intro u hu; simp [cp] at hu; rcases hu with rfl | rfl <;> rfl) mL oM rfl (fun w v58 hw => ?_);refine z2 ?_;have e1 : ((S ++ [(x.1, lo - 1)]).map cp).flatten = (S.map cp).flatten ++ cp (x.1, lo - 1) := by simp
     refine ⟨[(1000000000, _), (0, _), (1, _), (2, _), (7, _), (9, _), (11, _), (27, _), (28, _), (29, _)], sB, v58, S ++ [(x.1, lo - 1)], rfl, ⟨by rw [ao h5], by simp⟩, ?_⟩;rw [e1, de, mG];exact (hw.b [ah b57 _ _, row _ _ v58 _ _, ah mB _ _, ah b7 _ _, dG D1, ah qb _ _, row _ _ _ _ _]).tail
    refine dS ?_;refine ⟨[(1000000000, _), (0, _), (1, _), (2, _), (7, _), (9, _), (11, _), (27, _), (28, _), (29, _)], sB, v1, S, rfl, ⟨by rw [aj h5, pz], oM⟩, ?_⟩;exact hw.b [row _ _ v1 _ _, ah mB _ _, ah b7 _ _, dG D1, ah qb _ _, row _ _ _ _ _]
   clear hw;rintro e w ⟨v2, S', rfl, ⟨hS', hSl⟩, hw⟩;rw [<-pZ, <-hS'] at jB;refine z3 ?_;refine lD ag hw ?_;refine z3 ?_;refine aE rfl (fun h6 => ?_) fun h6 => ?_
   ·
    refine z5 ?_;refine lD ag hw ?_;refine aO (v := gQ (cp (hi + 1, x.2))) rfl rfl (fun w => kR) ?_;refine fG (cs := cp (hi + 1, x.2)) rfl aR bZ cX dM rfl rfl rfl hw rfl fun w b69 hw => ?_;refine fH (m := S'.length) (k := 1) (news := cp (hi + 1, x.2)) rfl aR bZ fO cX rfl rfl hw (show cG (row 379 2 v2 _ _) _ _ from pK) (Rd.jE hw pK) rfl (by intro u hu; simp [cp] at hu; rcases hu with rfl | rfl <;> rfl) mL oM rfl (fun w v70 hw => ?_);refine z6 ?_;refine ⟨rs.length - (k + 1), oM, [(1000000000, _), (0, _), (1, _), (2, _), (7, _), (9, _), (27, _), (28, _), (29, iQ (k + 1 : Nat))], sB, k + 1, _, oM, rfl, rfl, ?_⟩;rw [jB, ao h6];have e1 : ((S' ++ [(hi + 1, x.2)]).map cp).flatten = (S'.map cp).flatten ++ cp (hi + 1, x.2) := by simp
    simp only [de, mG, e1];exact (hw.b [ah b69 _ _, ah mB _ _, row _ _ v70 _ _, ah b7 _ _, dG D1, ah qb _ _, row _ _ _ _ _]).tail.tail
   refine z5 ?_;refine ⟨rs.length - (k + 1), oM, [(1000000000, _), (0, _), (1, _), (2, _), (7, _), (9, _), (27, _), (28, _), (29, iQ (k + 1 : Nat))], sB, k + 1, _, oM, rfl, rfl, ?_⟩;rw [jB, aj h6, pz];exact (hw.b [ah mB _ _, row _ _ v2 _ _, ah b7 _ _, dG D1, ah qb _ _, row _ _ _ _ _]).tail
  have pA : k = rs.length := oM;subst pA;rw [sX] at hS;obtain ⟨a1, c1, rfl⟩ := aP (hw.pick (A := row _ _ v1 _ _) pK);refine z7 ?_;refine bu (l' := [_]) rfl tV rfl rfl c9 rfl hw pK rfl rfl rfl fun w hw => ?_;refine z3 ?_;refine lD f' hw ?_;refine By rfl kR q8 cP rfl ?_;refine z3 ?_;refine bB rfl ?_;refine gz hw pK fun w hw => ?_;exact p6 rfl rfl (by
 refine ⟨⟨_, rfl⟩, .slice a1 S.length c1, ?_⟩;rw [<-hS];exact (hw.b [ah b7 _ _, row _ _ (.slice va rs.length vc) _ _, ah qb _ _, row _ _ (.slice a1 S.length c1) _ _]).tail.tail)
 ·
  clear hw; intro D w hw; exact (gC hw).elim fun _ h => h.1.elim
 intro id A hA; cases hA
end
structure Hr where
 refs : Int
 counts : List Int
 cv : Value
 last : List Bool
 lv : Value
 fr : Option Addr
 t0 : Int
 t1 : Int
 t2 : Int
 t3 : Int
 t4 : Int
 av : Value
 na : Nat
 floor : Int
def Hr.cells (p : Hr) : List Value := [iQ p.refs, p.cv, p.lv, .pointer p.fr, iQ p.t0, iQ p.t1, iQ p.t2, iQ p.t3, iQ p.t4, p.av, iQ p.floor]
def zN (l : List Bool) : List Value := l.map (.bool ·)
theorem j8 (l : List Bool) : (zN l).length = l.length := by simp [zN]
def Hr.tal (p : Hr) (k : Int) : Int := if k = 0 then p.t0 else if k = 1 then p.t1 else if k = 2 then p.t2 else if k = 3 then p.t3 else p.t4
abbrev bG (c : List Int) (n : Int) : Prop := 1 <= n /\ n <= (c.length : Int)
def fS (c : List Int) (n : Int) : Int := if bG c n then c.getD (n - 1).toNat 0 else 0
def ye (c : List Int) (l : List Bool) (n : Int) : Int :=
 if bG c n then (if 0 < c.getD (n - 1).toNat 0 then (if l.getD (n - 1).toNat false = true then 4 else 3) else if l.getD (n - 1).toNat false = true then 2 else 1) else 0
theorem Ar {c : List Int} {j : Nat} (h : j < c.length) : (bg c)[j]? = some (iQ (c.getD j 0)) := by
 simp only [bg, dg, List.getD];rw [dm h]; rfl
theorem aaq {c : List Bool} {j : Nat} (h : j < c.length) : (zN c)[j]? = some (.bool (decide (c.getD j false = true))) := by
 have e : ∀ b : Bool, Value.bool (decide (b = true)) = .bool b := fun b => by cases b <;> rfl
 rw [e];simp only [zN, dg, List.getD, dm h];rfl
theorem uk {v : Value} {c : List Int} {R : List aw} : aG (row 3 1 v c.length (bg c) :: R) (qx v (bg c)) := by
 have h := (qx.row (T := 3) (v := v) (cs := bg c)).head R;rw [bC] at h;exact h
theorem ab1 {v : Value} {c : List Bool} {R : List aw} : aG (row 4 1 v c.length (zN c) :: R) (qx v (zN c)) := by
 have h := (qx.row (T := 4) (v := v) (cs := zN c)).head R;rw [j8] at h;exact h
abbrev vn (q : Nat) (p : Hr) (L : List aw) : List aw := ah q p.cells 115 :: row 3 1 p.cv p.counts.length (bg p.counts) :: row 4 1 p.lv p.last.length (zN p.last) :: L
theorem sZ {q : Nat} {p : Hr} {G : Gh} {L : List aw} {w : World} (hw : an G (vn q p L) w) : ∃ ca cc la lc, vn q p L = (ah q [iQ p.refs, .slice ca p.counts.length cc, .slice la p.last.length lc, .pointer p.fr, iQ p.t0, iQ p.t1, iQ p.t2, iQ p.t3, iQ p.t4, p.av, iQ p.floor] 115 :: row 3 1 (.slice ca p.counts.length cc) p.counts.length (bg p.counts) :: row 4 1 (.slice la p.last.length lc) p.last.length (zN p.last) :: L) := by
 obtain ⟨ca, cc, h1⟩ := aP (hw.pick (A := row 3 1 p.cv _ _) (.there .here));obtain ⟨la, lc, h2⟩ := aP (hw.pick (A := row 4 1 p.lv _ _) (.there (.there .here)));exact ⟨ca, cc, la, lc, by unfold vn; simp only [Hr.cells, h1, h2]⟩
section
variable {G : Gh} {L R : List aw} {w : World}
theorem yu {n r : Int} (hw : an G L w) : Calls prog 108 #[iQ n, iQ r] w (bU fun u w' => u = .bool (decide (1 <= n /\ n <= 65536 /\ 2 <= r /\ r < 65536)) /\ an G L w') := by
 refine ad (args := [_, _]) func108 rfl ntmps108 rfl rfl ?_;refine z9 ?_;refine cu (l1 := [3, 4, 5]) (l2 := [6, 7, 8, 9, 10, 11, 12, 13, 14]) rfl (d := 10) (1 <= n /\ n <= 65536) rfl ?_ ?_
 ·
  refine ay (d := 7) rfl (fun h1 => ?_) fun h1 => ?_
  ·
   refine z4 ?_;refine cQ ?_;exact dC
  refine z4 ?_;refine cQ ?_;exact dC
 refine z1 ?_;refine cu (l1 := [7, 8, 9]) (l2 := [10, 11, 12, 13, 14]) rfl (d := 14) (1 <= n /\ n <= 65536 /\ 2 <= r) rfl ?_ ?_
 ·
  refine ay (d := 11) rfl (fun h2 => ?_) fun h2 => ?_
  ·
   refine z4 ?_;refine cQ ?_;exact dC
  refine z4 ?_;refine cQ ?_;exact dC
 refine z1 ?_;refine cu (l1 := [11, 12, 13]) (l2 := [14]) rfl (d := 18) (1 <= n /\ n <= 65536 /\ 2 <= r /\ r < 65536) rfl ?_ ?_
 ·
  refine ay (d := 15) rfl (fun h3 => ?_) fun h3 => ?_
  ·
   refine z4 ?_;refine cQ ?_;exact dC
  refine z4 ?_;refine cQ ?_;exact dC
 refine z3 ?_;exact aK rfl rfl rfl ⟨rfl, hw⟩
theorem qd {q : Nat} {p : Hr} {n : Int} (hw : an G (vn q p L) w) : Calls prog 142 #[pQ q, iQ n] w (bU fun u w' => u = .bool (decide (bG p.counts n)) /\ an G (vn q p L) w') := by
 obtain ⟨ca, cc, la, lc, he⟩ := sZ hw;rw [he] at hw;refine ad (args := [_, _]) func142 rfl ntmps142 rfl rfl ?_;refine z9 ?_;refine cu (l1 := [3, 4, 5, 6, 7, 8, 9, 10]) (l2 := [11]) rfl (d := 15) (1 <= n /\ n <= (p.counts.length : Int)) rfl ?_ ?_
 ·
  refine ay (d := 7) rfl (fun h1 => ?_) fun h1 => ?_
  ·
   refine z2 ?_;refine Bx rfl rfl ?_;refine z1 ?_;refine lD dU hw ?_;refine eJ rfl kR bp rfl ?_;refine z3 ?_;refine cQ ?_;exact dC
  refine z9 ?_;refine cQ ?_;exact dC
 refine z3 ?_;exact aK rfl rfl rfl ⟨rfl, by rw [he]; exact hw⟩
theorem Cn {q : Nat} {p : Hr} (hw : an G (vn q p L) w) : Calls prog 102 #[pQ q] w (bU fun u w' => u = iQ p.counts.length /\ an G (vn q p L) w') := by
 obtain ⟨ca, cc, la, lc, he⟩ := sZ hw;rw [he] at hw;refine ad (args := [_]) func102 rfl ntmps102 rfl rfl ?_;refine z9 ?_;refine lD dU hw ?_;refine z4 ?_;exact aK rfl rfl rfl ⟨rfl, by rw [he]; exact hw⟩
theorem lB {q : Nat} {p : Hr} {n : Int} (hw : an G (vn q p L) w) (hl : p.counts.length <= 65536) : Calls prog 72 #[pQ q, iQ n] w (bU fun u w' => u = iQ (fS p.counts n) /\ an G (vn q p L) w') := by
 obtain ⟨ca, cc, la, lc, he⟩ := sZ hw;refine ad (args := [_, _]) func72 rfl ntmps72 rfl rfl ?_;refine z9 ?_;refine al rfl o8 rfl (qd hw) rfl fun w v7 hv => ?_;obtain ⟨rfl, hw⟩ := hv;refine fo rfl rfl ?_;refine aC ?_;refine aE rfl (fun h1 => ?_) fun h1 => ?_
 ·
  have zM : ¬ bG p.counts n := by simpa using h1
  refine z5 ?_;exact aK rfl rfl rfl ⟨by unfold fS; rw [aj zM], hw⟩
 have zM : bG p.counts n := by simpa using h1
 rw [he] at hw;have iT : aG (row 3 1 (.slice ca p.counts.length cc) p.counts.length (bg p.counts) :: row 4 1 (.slice la p.last.length lc) p.last.length (zN p.last) :: L) (qx (.slice ca p.counts.length cc) (bg p.counts)) := uk;obtain ⟨bb, oo, rfl⟩ := ((iT.of sF).at hw).nn (by rw [bC]; omega);refine z6 ?_;refine lD dU hw ?_;refine z2 ?_;refine cR rfl bp cm rfl rfl ⟨oM, oM⟩ ?_;refine bt rfl rfl (ar.one ag (((iT.of sF).at hw).at (Ar oM))) ?_;refine z3 ?_;exact aK rfl rfl rfl ⟨by unfold fS; rw [ao zM], by rw [he]; exact hw⟩
theorem iJ {q : Nat} {p : Hr} {n : Int} (hw : an G (vn q p L) w) (hl : p.counts.length <= 65536) (nM : p.last.length = p.counts.length) : Calls prog 82 #[pQ q, iQ n] w (bU fun u w' => u = iQ (ye p.counts p.last n) /\ an G (vn q p L) w') := by
 obtain ⟨ca, cc, la, lc, he⟩ := sZ hw;refine ad (args := [_, _]) func82 rfl ntmps82 rfl rfl ?_;refine mN ?_;refine al rfl o8 rfl (qd hw) rfl fun w v8 hv => ?_;obtain ⟨rfl, hw⟩ := hv;refine fo rfl rfl ?_;refine z2 ?_;refine aE rfl (fun h1 => ?_) fun h1 => ?_
 ·
  have zM : ¬ bG p.counts n := by simpa using h1
  refine z5 ?_;exact aK rfl rfl rfl ⟨by unfold ye; rw [aj zM], hw⟩
 have zM : bG p.counts n := by simpa using h1
 rw [he] at hw;have iT : aG (row 3 1 (.slice ca p.counts.length cc) p.counts.length (bg p.counts) :: row 4 1 (.slice la p.last.length lc) p.last.length (zN p.last) :: L) (qx (.slice ca p.counts.length cc) (bg p.counts)) := uk;have Yx : aG (row 4 1 (.slice la p.last.length lc) p.last.length (zN p.last) :: L) (qx (.slice la p.last.length lc) (zN p.last)) := ab1;obtain ⟨bb, oo, rfl⟩ := ((iT.of sF).at hw).nn (by rw [bC]; omega);obtain ⟨b2, o2, rfl⟩ := ((Yx.of sF).at hw).nn (by rw [j8]; omega);obtain ⟨c, hc⟩ : ∃ c, c = p.counts.getD (n - 1).toNat 0 := ⟨_, rfl⟩;obtain ⟨b, hb⟩ : ∃ b, b = p.last.getD (n - 1).toNat false := ⟨_, rfl⟩;have jB : ye p.counts p.last n = (if 0 < c then (if b = true then 4 else 3) else if b = true then 2 else 1) := by unfold ye; rw [ao zM, hc, hb]
 have W2 : (bg p.counts)[(n - 1).toNat]? = some (iQ c) := by rw [hc]; exact Ar oM
 have r9 : (zN p.last)[(n - 1).toNat]? = some (.bool (decide (b = true))) := by rw [hb]; exact aaq oM
 rw [jB];refine z5 ?_;refine lD dU hw ?_;refine z2 ?_;refine cR rfl bp cm rfl rfl ⟨oM, oM⟩ ?_;refine bt rfl rfl (ar.one ag (((iT.of sF).at hw).at W2)) ?_;refine z2 ?_;refine cu (l1 := [10, 11, 12, 13, 14, 15, 16, 17, 18]) (l2 := [19]) rfl (d := 29) (0 < c /\ b = true) rfl ?_ ?_
 ·
  refine ay (d := 20) rfl (fun h2 => ?_) fun h2 => ?_
  ·
   refine z1 ?_;refine Bx rfl rfl ?_;refine z1 ?_;refine lD vu hw ?_;refine z1 ?_;refine Bv rfl rfl rfl oM ?_;refine cR rfl xk Eb rfl rfl ⟨oM, oM⟩ ?_;refine bt rfl rfl (ar.one bM (((Yx.of sF).at hw).at r9)) ?_;refine z2 ?_;refine cQ ?_
   first | exact cd.2 ⟨fun h => ⟨h2, h⟩, fun h => h.2⟩ | exact (decide_eq_false (fun h => h2 h.1)).symm
  refine mN ?_;refine cQ ?_
  first | exact cd.2 ⟨fun h => ⟨h2, h⟩, fun h => h.2⟩ | exact (decide_eq_false (fun h => h2 h.1)).symm
 refine z2 ?_;refine aE rfl (fun h3 => ?_) fun h3 => ?_
 ·
  refine z5 ?_;exact aK rfl rfl rfl ⟨by rw [ao h3.1, ao h3.2], by rw [he]; exact hw⟩
 refine z5 ?_;refine lD dU hw ?_;refine z2 ?_;refine cR rfl bp cm rfl rfl ⟨oM, oM⟩ ?_;refine bt rfl rfl (ar.one ag (((iT.of sF).at hw).at W2)) ?_;refine z3 ?_;refine aE rfl (fun h4 => ?_) fun h4 => ?_
 ·
  refine z5 ?_;exact aK rfl rfl rfl ⟨by rw [ao h4, aj (fun h => h3 ⟨h4, h⟩)], by rw [he]; exact hw⟩
 refine z5 ?_;refine lD vu hw ?_;refine z2 ?_;refine cR rfl xk Eb rfl rfl ⟨oM, oM⟩ ?_;refine bt rfl rfl (ar.one bM (((Yx.of sF).at hw).at r9)) ?_;refine z2 ?_;refine aE rfl (fun h5 => ?_) fun h5 => ?_
 ·
  refine z5 ?_;exact aK rfl rfl rfl ⟨by rw [aj h4, ao h5], by rw [he]; exact hw⟩
 refine z6 ?_;exact aK rfl rfl rfl ⟨by rw [aj h4, aj h5], by rw [he]; exact hw⟩
end
def No (x : Int) : Int := if 0 < x then 4 else 1
def jq (l : List Int) (k : Int) : Int := ((l.filter fun x => decide (No x = k)).length : Int)
theorem IC (l : List Int) (x k : Int) : jq (l ++ [x]) k = jq l k + (if No x = k then 1 else 0) := by
 unfold jq;rw [JX, de]
 by_cases h : No x = k <;> simp [h]
theorem Pm (l : List Int) (k : Int) : 0 <= jq l k /\ jq l k <= l.length := by
 unfold jq;have := N6 (fun x => decide (No x = k)) l;omega
def My (s : Nat × List (Int × Int)) (x : Int) : Nat × List (Int × Int) := (s.1 + 1, if x = 0 then x6 s.2 ((s.1 : Int) + 1) ((s.1 : Int) + 1) else s.2)
def Jj (l : List Int) : Nat × List (Int × Int) := l.foldl My (0, [])
def fK (l : List Int) : List (Int × Int) := (Jj l).2
theorem R7 (l : List Int) : (Jj l).1 = l.length := by
 have : ∀ (l : List Int) (s : Nat × List (Int × Int)), (l.foldl My s).1 = s.1 + l.length := by
  intro l
  induction l with
  | nil => intro s; rfl
  | cons x l ih => intro s; rw [Rc, ih]; simp only [My, g5]; omega
 rw [Jj, this]; simp
theorem y8 (l : List Int) (x : Int) : fK (l ++ [x]) = if x = 0 then x6 (fK l) ((l.length : Int) + 1) ((l.length : Int) + 1) else fK l := by
 unfold fK;rw [show Jj (l ++ [x]) = My (Jj l) x by unfold Jj; rw [List.foldl_append]; rfl];unfold My;rw [R7]
theorem Nd {lo hi : Int} : ∀ (rs : List (Int × Int)) (s : Vd) (x : Int × Int), (x ∈ (rs.foldl fA s).below \/ x ∈ (rs.foldl fA s).cV) -> x ∈ s.below \/ x ∈ s.cV \/ x ∈ rs := by
 intro rs
 induction rs with
 | nil => intro s x h; rcases h with h | h; exact .inl h; exact .inr (.inl h)
 | cons y rs ih =>
  intro s x h;rw [Rc] at h;rcases ih _ x h with h | h | h
  ·unfold fA at h;split at h
   ·rcases gF.1 h with h | h
    ·exact .inl h
    exact .inr (.inr (by simp at h; simp [h]))
   split at h <;> exact .inl h
  ·unfold fA at h;split at h
   ·exact .inr (.inl h)
   split at h
   ·rcases gF.1 h with h | h
    ·exact .inr (.inl h)
    exact .inr (.inr (by simp at h; simp [h]))
   exact .inr (.inl h)
  exact .inr (.inr (jN _ h))
theorem XV {rs : List (Int × Int)} {lo hi : Int} (h : k9 (lo, hi)) (HB : ∀ x ∈ rs, k9 x) : (∀ x ∈ x6 rs lo hi, k9 x) /\ (x6 rs lo hi).length <= rs.length + 1 := by
 have ha := YR h HB rs.length (g8 _);rw [sX] at ha;refine ⟨fun x hx => ?_, ?_⟩
 ·unfold x6 at hx;rcases gF.1 hx with hx | hx
  ·rcases gF.1 hx with hx | hx
   ·rcases Nd (lo := lo) (hi := hi) rs _ x (.inl hx) with h | h | h
    ·cases h
    ·cases h
    exact HB x h
   simp at hx; subst hx; exact ha.r
  rcases Nd (lo := lo) (hi := hi) rs _ x (.inr hx) with h | h | h
  ·cases h
  ·cases h
  exact HB x h
 have := ha.b;unfold x6;simp only [de, mG];omega
theorem UM : ∀ (n : Nat) (l : List Int), l.length <= n -> n <= 1000000 -> (∀ x ∈ fK l, k9 x) /\ (fK l).length <= l.length := by
 intro n
 induction n with
 | zero =>
  intro l hl _;have : l = [] := Ae oM;subst this;exact ⟨fun x hx => (by cases hx), g8 _⟩
 | succ n ih =>
  intro l hl hn;rcases l.eq_nil_or_concat with rfl | ⟨l', x, rfl⟩
  ·exact ⟨fun x hx => (by cases hx), dy _⟩
  simp only [List.concat_eq_append] at hl ⊢;rw [de, mG] at hl ⊢
  obtain ⟨h1, h2⟩ := ih l' oM oM;rw [y8];split
  ·have h3 := XV (rs := fK l') (lo := (l'.length : Int) + 1) (hi := (l'.length : Int) + 1) (by unfold k9; simp only; omega) h1;exact ⟨h3.1, oM⟩
  exact ⟨h1, oM⟩
section
variable {G : Gh} {L R : List aw} {w : World}
theorem mi {q : Nat} {p : Hr} (hw : an G (vn q p L) w) (Ek : ∃ a c, p.av = .slice a p.na c) (hf : 0 <= p.floor /\ p.floor + p.na <= 1000000000000000) : Calls prog 204 #[pQ q] w (bU fun u w' => u = iQ (p.floor + p.na) /\ an G (vn q p L) w') := by
 obtain ⟨ca, cc, la, lc, he⟩ := sZ hw;obtain ⟨aa, ac, Ek⟩ := Ek;rw [Ek] at he;rw [he] at hw
 refine ad (args := [_]) func204 rfl ntmps204 rfl rfl ?_;refine z5 ?_;refine bd [0, 1, 2, 3, 4, 5, 6, 7, 8, 9, 10] bJ kR ?_;replace hw := hw.drawn (w.drawn + 1);refine z3 ?_;refine lD ag hw ?_;refine z3 ?_;refine lD ew hw ?_;refine eJ rfl kR jm rfl ?_;refine z4 ?_;exact aK rfl rfl rfl ⟨rfl, by rw [he]; exact hw⟩
theorem zo {q : Nat} {p : Hr} {k : Int} (hw : an G (vn q p L) w) : Calls prog 20 #[pQ q, iQ k] w (bU fun u w' => u = iQ (if k < 1 \/ 4 < k then 0 else p.tal k) /\ an G (vn q p L) w') := by
 obtain ⟨ca, cc, la, lc, he⟩ := sZ hw;rw [he] at hw;refine ad (args := [_, _]) func20 rfl ntmps20 rfl rfl ?_;refine mN ?_;refine cu (l1 := [3, 4, 5]) (l2 := []) rfl (d := 10) (k < 1 \/ 4 < k) rfl ?_ ?_
 ·
  refine ay (d := 7) rfl (fun h1 => ?_) fun h1 => ?_
  ·
   refine z4 ?_;refine cQ ?_;exact dC
  refine z4 ?_;refine cQ ?_;exact dC
 refine aC ?_;refine aE rfl (fun h2 => ?_) fun h2 => ?_
 ·
  refine z5 ?_;exact aK rfl rfl rfl ⟨by rw [ao h2], by rw [he]; exact hw⟩
 have h3 : k = 1 \/ k = 2 \/ k = 3 \/ k = 4 := oM;refine z7 ?_;refine sP rfl qt cm rfl rfl ⟨oM, oM⟩ ?_;refine bt rfl rfl (ar.bL (v := iQ (p.tal k)) ag hw pK (by rcases h3 with rfl | rfl | rfl | rfl <;> rfl)) ?_;refine z3 ?_;exact aK rfl rfl rfl ⟨by rw [aj h2], by rw [he]; exact hw⟩
theorem lN {v : Value} {l : List Int} (hw : an G L w) (ka : aG L (qx v (bg l))) (nM : l.length <= 1000000000) :
  Calls prog 39 #[v] w (bU fun r w' => an G (row 3 1 r l.length (bg l) :: L) w') := by
 obtain ⟨a, cap, rfl⟩ := (ka.at hw).form;rw [bC];refine ad (args := [_]) func39 rfl ntmps39 rfl rfl ?_;refine z8 ?_;refine zV rfl bp rfl ?_;refine aC ?_;refine di rfl (fun h1 => ?_) fun h1 => ?_
 ·
  refine z5 ?_;exact aK rfl rfl rfl (by
 rcases ka.at hw with ⟨-, h⟩ | ⟨b, o, cap, h, -⟩
 ·have : l = [] := by simpa [bg] using h
  subst this; exact bI hw _ _
 ·cases h; cases h1)
 obtain ⟨x, rfl⟩ : ∃ x, a = some x := by cases a with | none => cases h1 | some x => exact ⟨x, rfl⟩
 refine z3 ?_;refine Pj rfl bp cm hw rfl fun w b5 hw => ?_;have hw := gS (z := 1) (m := 0) hw rfl mL;have qE : Rd w x (bg l) := by
  rcases (ka.cons (row 3 1 (sQ b5 0 0) 0 [])).at hw with ⟨-, h⟩ | ⟨b, o, cap, h, -, hR⟩
  ·rw [h]; exact Rd.nil
  cases h; exact hR
 refine z1 ?_;refine fH (m := 0) (k := l.length) (news := bg l) rfl bp cm ni gZ rfl rfl hw pK qE (by rw [bC]; omega) (by intro u hu; obtain ⟨z, _, rfl⟩ := dE.1 hu; rfl) mL oM rfl (fun w v7 hw => ?_);refine z3 ?_;exact aK rfl rfl rfl (by rw [pY, ie] at hw; exact hw)
theorem xN {q : Nat} {p : Hr} (hw : an G (vn q p L) w) (hl : p.counts.length <= 65536) : Calls prog 10 #[pQ q] w (bU fun u w' => an G (row 3 1 u p.counts.length (bg p.counts) :: vn q p L) w') := by
 obtain ⟨ca, cc, la, lc, he⟩ := sZ hw;rw [he] at hw;have iT : aG (row 3 1 (.slice ca p.counts.length cc) p.counts.length (bg p.counts) :: row 4 1 (.slice la p.last.length lc) p.last.length (zN p.last) :: L) (qx (.slice ca p.counts.length cc) (bg p.counts)) := uk;refine ad (args := [_]) func10 rfl ntmps10 rfl rfl ?_;refine z9 ?_;refine lD dU hw ?_;refine al rfl k6 rfl (lN hw (iT.of sF) oM) rfl fun w v7 hv => ?_;refine z3 ?_;exact aK rfl rfl rfl (by rw [he]; exact hv)
end
def nJ (c : List Int) (l : List Bool) (k : Nat) : List Bool := (c.take k).map (fun x => decide (0 < x)) ++ l.drop k
theorem l4 {c : List Int} {l : List Bool} {k : Nat} (h : l.length = c.length) (hk : k <= c.length) : (nJ c l k).length = c.length := by
 unfold nJ; simp only [de, bX, fB, gT]; omega
theorem I6 {c : List Int} {l : List Bool} {k : Nat} {x : Int} (h : l.length = c.length) (hx : c[k]? = some x) : (nJ c l k).set k (decide (0 < x)) = nJ c l (k + 1) := by
 have hk : k < c.length := (xu.1 hx).1;unfold nJ;rw [cC hx, kz, List.set_append_right _ _ (by simp; omega)];rw [show k - (List.map (fun x => decide (0 < x)) (List.take k c)).length = 0 by simp; omega];rw [pZ]
 congr 1
 rw [Wd (by omega : k < l.length)];rfl
theorem T7 {c : List Int} {l : List Bool} {k : Nat} {x : Int} (h : l.length = c.length) (hx : c[k]? = some x) : (nJ c l (k + 1)).getD k false = decide (0 < x) := by
 have hk : k < c.length := (xu.1 hx).1;rw [<-I6 h hx, List.getD];rw [List.getElem?_set_self (by rw [l4 h oM]; exact hk)];rfl
theorem RC {c : List Int} {l : List Bool} (h : l.length = c.length) : nJ c l c.length = c.map fun x => decide (0 < x) := by
 unfold nJ; rw [sX, vm oM, pz]
theorem Lo {c : List Int} {l : List Bool} {k : Nat} {x : Int} (h : l.length = c.length) (hx : c[k]? = some x) : ye c (nJ c l (k + 1)) ((k : Int) + 1) = No x := by
 have hk : k < c.length := (xu.1 hx).1;unfold ye No;rw [ao (by omega : bG c ((k : Int) + 1)), show ((k : Int) + 1 - 1).toNat = k by omega, T7 h hx];have hc : c.getD k 0 = x := by rw [List.getD, hx]; rfl
 rw [hc]
 by_cases h0 : 0 < x <;> simp [h0]
theorem TF {q : Nat} {p : Hr} {G : Gh} {L : List aw} {w : World} (hw : an G (vn q p L) w) : ∃ ca cc la lc, p.cv = .slice ca p.counts.length cc /\ p.lv = .slice la p.last.length lc /\ vn q p L = (ah q [iQ p.refs, .slice ca p.counts.length cc, .slice la p.last.length lc, .pointer p.fr, iQ p.t0, iQ p.t1, iQ p.t2, iQ p.t3, iQ p.t4, p.av, iQ p.floor] 115 :: row 3 1 (.slice ca p.counts.length cc) p.counts.length (bg p.counts) :: row 4 1 (.slice la p.last.length lc) p.last.length (zN p.last) :: L) := by
 obtain ⟨ca, cc, h1⟩ := aP (hw.pick (A := row 3 1 p.cv _ _) (.there .here));obtain ⟨la, lc, h2⟩ := aP (hw.pick (A := row 4 1 p.lv _ _) (.there (.there .here)));exact ⟨ca, cc, la, lc, h1, h2, by unfold vn; simp only [Hr.cells, h1, h2]⟩
section
variable {G : Gh} {L R : List aw} {w : World}
theorem xM {q : Nat} {p : Hr} (hw : an G (vn q p L) w) (Ek : ∃ a c, p.av = .slice a p.na c) (hf : 0 <= p.floor /\ p.floor + p.na <= 1000000000000000) (hl : p.counts.length <= 65536) (nM : p.last.length = p.counts.length) (hnn : ∀ x ∈ p.counts, 0 <= x) :
  Calls prog 119 #[pQ q] w (bU fun u w' => u = .tuple #[] /\ ∃ (fq : Nat) (fv : Value), an G (vn q { p with last := p.counts.map (fun x => decide (0 < x)), fr := some ⟨fq, 0, none⟩, t0 := 0, t1 := jq p.counts 1, t2 := 0, t3 := 0, t4 := jq p.counts 4, av := nQ, na := 0, floor := p.floor + p.na } (ah fq [fv] 377 :: row 379 2 fv (fK p.counts).length ((fK p.counts).map cp).flatten :: L)) w') := by
 obtain ⟨ca, cc, la, lc, hcv, PX, he⟩ := TF hw;rw [nM] at he PX;refine ad (args := [_]) func119 rfl ntmps119 rfl rfl ?_;refine z5 ?_;refine al rfl lF rfl (mi hw Ek hf) rfl fun w v7 hv => ?_;obtain ⟨rfl, hw⟩ := hv;rw [he] at hw
 refine z2 ?_;refine bu (l' := [_, _, _, _, _, _, _, _, _, _, _]) rfl tV rfl rfl ag rfl hw pK rfl rfl rfl fun w hw => ?_;refine z2 ?_;refine bu (l' := [_, _, _, _, _, _, _, _, _, _, _]) rfl tV rfl rfl ew rfl hw pK rfl rfl rfl fun w hw => ?_;refine z4 ?_;refine al rfl Cw rfl (DP hw) rfl fun w NL hv => ?_;obtain ⟨fq, rfl, hw⟩ := hv;refine z2 ?_;refine bu (l' := [_, _, _, _, _, _, _, _, _, _, _]) rfl tV rfl rfl eA rfl hw pK rfl rfl rfl fun w hw => ?_;refine z4 ?_;refine aO (v := .agg #[iQ 0, iQ 0, iQ 0, iQ 0, iQ 0]) rfl rfl (fun w => kR) ?_;refine z2 ?_;refine aT (cs := [iQ 0, iQ 0, iQ 0, iQ 0, iQ 0]) (l' := [iQ p.refs, .slice ca p.counts.length cc, .slice la p.counts.length lc, pQ fq, iQ 0, iQ 0, iQ 0, iQ 0, iQ 0, nQ, iQ (p.floor + p.na)]) rfl tV rfl rfl L6 rfl (by intro u hu; simp at hu; subst hu; rfl) hw pK sM rfl kR (fun w hw => ?_);refine z6 ?_;refine lD dU hw ?_;refine z4 ?_;have hw := hw.b [ah q _ _, row 3 _ _ _ _, row 4 _ _ _ _, ah fq _ _, row 379 _ _ _ _];refine bF (fun m e w => ∃ (k : Nat) (fv : Value), k <= p.counts.length /\ m = p.counts.length - k /\ e = [(0, pQ q), (23, .slice ca p.counts.length cc), (24, iQ p.counts.length), (25, iQ k)] /\ an G (ah q [iQ p.refs, .slice ca p.counts.length cc, .slice la p.counts.length lc, pQ fq, iQ 0, iQ (jq (p.counts.take k) 1), iQ 0, iQ 0, iQ (jq (p.counts.take k) 4), nQ, iQ (p.floor + p.na)] 115 :: row 3 1 (.slice ca p.counts.length cc) p.counts.length (bg p.counts) :: row 4 1 (.slice la p.counts.length lc) p.counts.length (zN (nJ p.counts p.last k)) :: ah fq [fv] 377 :: row 379 2 fv (fK (p.counts.take k)).length ((fK (p.counts.take k)).map cp).flatten :: L) w)
  (m := p.counts.length) sB
  ⟨0, nQ, dy _, rfl, rfl, hw⟩ ?_
 rintro m e w ⟨k, fv, hk, rfl, rfl, hw⟩;refine z5 ?_;refine aE rfl (fun h1 => ?_) fun h1 => ?_
 ·
  have gK : k < p.counts.length := oM;obtain ⟨x, hx⟩ : ∃ x, p.counts[k]? = some x := ⟨_, dm gK⟩;have KY := hnn x (gl hx);have C4 : (bg p.counts)[k]? = some (iQ x) := by simp only [bg, dg, hx]; rfl
  have iT : aG (row 3 1 (.slice ca p.counts.length cc) p.counts.length (bg p.counts) :: row 4 1 (.slice la p.counts.length lc) p.counts.length (zN (nJ p.counts p.last k)) :: ah fq [fv] 377 :: row 379 2 fv (fK (p.counts.take k)).length ((fK (p.counts.take k)).map cp).flatten :: L) (qx (.slice ca p.counts.length cc) (bg p.counts)) := uk;obtain ⟨bb, oo, rfl⟩ := ((iT.of sF).at hw).nn (by rw [bC]; omega);have hfr := UM p.counts.length (p.counts.take k) (by rw [fB]; omega) oM;rw [fB] at hfr;have hT1 : jq (p.counts.take (k + 1)) 1 = jq (p.counts.take k) 1 + (if No x = 1 then 1 else 0) := by rw [cC hx]; exact IC _ _ _
  have hT4 : jq (p.counts.take (k + 1)) 4 = jq (p.counts.take k) 4 + (if No x = 4 then 1 else 0) := by rw [cC hx]; exact IC _ _ _
  have ac1 := Pm (p.counts.take k) 1;have ac0 := Pm (p.counts.take k) 4;rw [fB] at ac1 ac0;have hfs : fK (p.counts.take (k + 1)) = if x = 0 then x6 (fK (p.counts.take k)) ((k : Int) + 1) ((k : Int) + 1) else fK (p.counts.take k) := by rw [cC hx, y8, fB, EW oM]
  refine z6 ?_;refine cR rfl bp cm rfl rfl ⟨oM, oM⟩ ?_;refine bt rfl rfl (ar.one ag (((iT.of sF).at hw).at (by rw [ez]; exact C4))) ?_;refine z8 ?_;refine lD vu hw ?_;have hw := hw.pick (A := row 4 _ _ _ _) pK;obtain ⟨-, lb, ab7, rfl, Uz, K2, hl3, hw⟩ := hY hw oM;refine z3 ?_;refine cR rfl xk Eb rfl rfl ⟨oM, oM⟩ ?_;refine bu (l' := zN (nJ p.counts p.last (k + 1)) ++ ab7) rfl tV rfl rfl bM rfl hw pK (by simp [j8, l4 nM (by omega : k <= p.counts.length)]; omega) (by rw [pY, ez, List.set_append_left _ _ (by rw [j8, l4 nM oM]; exact gK), <-I6 nM hx]; simp [zN, LA]) rfl (fun w hw => ?_);have hle := l4 (k := k + 1) nM oM;have hw := oE (xs := zN (nJ p.counts p.last (k + 1))) (m := p.counts.length) (z := 1) hw (by rw [j8, hle, EV]) Uz K2 (by rw [<-hl3, de, de, j8, j8, hle, l4 nM oM]);have hz := hw.b [ah q _ _, row 3 _ _ _ _, row 4 _ _ _ _];have Vl : an G (vn q ⟨p.refs, p.counts, .slice (some ⟨bb, oo, none⟩) p.counts.length cc, nJ p.counts p.last (k + 1), sQ lb p.counts.length lc, some ⟨fq, 0, none⟩, 0, (jq (p.counts.take k) 1), 0, 0, (jq (p.counts.take k) 4), nQ, 0, p.floor + p.na⟩ (ah fq [fv] 377 :: row 379 2 fv (fK (p.counts.take k)).length ((fK (p.counts.take k)).map cp).flatten :: L)) w := by
   show an G (ah q _ _ :: row 3 1 _ _ _ :: row 4 1 _ (nJ p.counts p.last (k + 1)).length _ :: _) w
   rw [hle];exact hz
  clear hw;have hw := Vl;obtain ⟨sx, hsx⟩ : ∃ sx, sx = No x := ⟨_, rfl⟩;have YE : sx = 1 \/ sx = 4 := by rw [hsx]; unfold No; split <;> simp
  obtain ⟨tx, ht1, ht4, K0⟩ : ∃ tx : Int, (sx = 1 -> tx = (jq (p.counts.take k) 1)) /\ (sx = 4 -> tx = (jq (p.counts.take k) 4)) /\ (0 <= tx /\ tx <= 65536) := by
   rcases YE with h | h
   ·exact ⟨_, fun _ => rfl, fun h' => by omega, oM⟩
   exact ⟨_, fun h' => by omega, fun _ => rfl, oM⟩
  refine z2 ?_;refine bd [0, 1, 2, 3, 5, 6, 10, 11, 4, 7, 8, 9, 12, 13] bJ kR ?_;replace hw := hw.drawn (w.drawn + 1);refine z8 ?_;refine al rfl fT rfl (iJ hw hl hle) kR fun w Hu hv => ?_;have hv : Hu = iQ sx /\ an G (ah q [iQ p.refs, .slice (some ⟨bb, oo, none⟩) p.counts.length cc, sQ lb p.counts.length lc, pQ fq, iQ 0, iQ (jq (p.counts.take k) 1), iQ 0, iQ 0, iQ (jq (p.counts.take k) 4), nQ, iQ (p.floor + p.na)] 115 :: row 3 1 (.slice (some ⟨bb, oo, none⟩) p.counts.length cc) p.counts.length (bg p.counts) :: row 4 1 (sQ lb p.counts.length lc) p.counts.length (zN (nJ p.counts p.last (k + 1))) :: ah fq [fv] 377 :: row 379 2 fv (fK (p.counts.take k)).length ((fK (p.counts.take k)).map cp).flatten :: L) w := by
   obtain ⟨h3, h4⟩ := hv;have h5 : an G (ah q _ _ :: row 3 1 _ _ _ :: row 4 1 _ (nJ p.counts p.last (k + 1)).length _ :: _) w := h4;rw [hle] at h5;exact ⟨by rw [hsx, <-Lo nM hx]; exact h3, h5⟩
  obtain ⟨rfl, hw⟩ := hv;refine sP rfl qt cm rfl rfl ⟨oM, oM⟩ ?_;refine bt rfl rfl (ar.bL (v := iQ tx) ag hw pK (by rcases YE with rfl | rfl; (rw [ht1 rfl]; rfl); (rw [ht4 rfl]; rfl))) ?_;refine z1 ?_;refine sP rfl qt cm rfl rfl ⟨oM, oM⟩ ?_;refine bu (l' := [iQ p.refs, .slice (some ⟨bb, oo, none⟩) p.counts.length cc, sQ lb p.counts.length lc, pQ fq, iQ 0, iQ (jq (p.counts.take (k + 1)) 1), iQ 0, iQ 0, iQ (jq (p.counts.take (k + 1)) 4), nQ, iQ (p.floor + p.na)]) rfl tV rfl rfl ag rfl hw pK (by rcases YE with rfl | rfl <;> rfl) (by
   rw [hT1, hT4, <-hsx];rcases YE with rfl | rfl
   ·rw [ht1 rfl]; rfl
   ·rw [ht4 rfl]; rfl) kR (fun w hw => ?_)
  refine z6 ?_;refine aE rfl (fun h2 => ?_) fun h2 => ?_
  ·
   refine z4 ?_;refine lD eA hw ?_;refine z4 ?_;refine al rfl oe rfl (o0 (hw.b [ah fq _ _, row 379 _ _ _ _]) oM (by unfold k9; simp only; omega) hfr.1 oM) rfl (fun w v61 hv => ?_);obtain ⟨-, fv', hw⟩ := hv;refine z5 ?_;rw [ao h2] at hfs;refine ⟨p.counts.length - (k + 1), oM, [(0, _), (23, _), (24, _), (25, iQ (k + 1 : Nat))], sB, k + 1, fv', oM, rfl, rfl, ?_⟩;rw [hfs];exact hw.b [ah q _ _, row 3 _ _ _ _, row 4 _ _ _ _, ah fq _ _, row 379 _ _ _ _]
  refine z5 ?_;rw [aj h2] at hfs;refine ⟨p.counts.length - (k + 1), oM, [(0, _), (23, _), (24, _), (25, iQ (k + 1 : Nat))], sB, k + 1, fv, oM, rfl, rfl, ?_⟩;rw [hfs];exact hw
 refine z1 ?_;exact kC rfl rfl (by
 have pA : k = p.counts.length := oM;subst pA;rw [sX, RC nM] at hw;refine ⟨rfl, fq, fv, ?_⟩
 show an G (ah q _ _ :: row 3 1 _ _ _ :: row 4 1 _ (p.counts.map fun x => decide (0 < x)).length _ :: _) w
 rw [bX];simp only [Hr.cells, hcv, PX];exact hw)
end
def PF (refs : Int) (c : List Int) (cv lv : Value) (fq : Nat) : Hr := ⟨refs, c, cv, c.map (fun x => decide (0 < x)), lv, some ⟨fq, 0, none⟩, 0, jq c 1, 0, 0, jq c 4, nQ, 0, 0⟩
abbrev EJ (fq : Nat) (fv : Value) (rs : List (Int × Int)) (L : List aw) : List aw := ah fq [fv] 377 :: row 379 2 fv rs.length (rs.map cp).flatten :: L
section
variable {G : Gh} {L R : List aw} {w : World}
theorem uz {v : Value} {l : List Int} (hw : an G L w) (ka : aG L (qx v (bg l))) (h0 : 0 < l.length) (hl : l.length <= 1000000000) : Calls prog 172 #[v] w (bU fun r w' => (∃ m, r = iQ m /\ m ∈ l /\ ∀ x ∈ l, m <= x) /\ an G L w') := by
 obtain ⟨a, cap, rfl⟩ := (ka.at hw).form;rw [bC];rw [bC] at ka;obtain ⟨bb, oo, rfl⟩ := (ka.at hw).nn (by rw [bC]; omega);refine ad (args := [_]) func172 rfl ntmps172 rfl rfl ?_;refine Ht ?_;refine aE rfl (fun h1 => ?_) fun h1 => ?_
 ·
  exact absurd h1 oM
 refine z4 ?_;refine cR rfl bp cm rfl rfl ⟨oM, oM⟩ ?_;refine bt rfl rfl (ar.one ag ((ka.at hw).at (i := 0) (Ar h0))) ?_;refine z8 ?_;refine bF (fun m e w => ∃ (k : Nat) (mn : Int), k <= l.length /\ m = l.length - k /\ e = [(0, .slice (some ⟨bb, oo, none⟩) l.length cap), (3, iQ mn), (4, iQ k)] /\ (mn ∈ l /\ ∀ x ∈ l.take k, mn <= x) /\ an G L w)
  (m := l.length - 1) sB
  ⟨1, _, oM, rfl, rfl, by
 cases l with
 | nil => simp at h0
 | cons x l => simp, hw⟩ ?_
 rintro m e w ⟨k, mn, hk, rfl, rfl, ⟨C6, xz⟩, hw⟩;refine z8 ?_;refine aE rfl (fun h3 => ?_) fun h3 => ?_
 ·
  have gK : k < l.length := oM;obtain ⟨x, hx⟩ : ∃ x, l[k]? = some x := ⟨_, dm gK⟩;refine z7 ?_;refine cR rfl bp cm rfl rfl ⟨oM, oM⟩ ?_;refine bt rfl rfl (ar.one ag ((ka.at hw).at (u := iQ x) (by rw [ez]; simp only [bg, dg, hx]; rfl))) ?_;refine uZ rfl rfl rfl ?_;refine z7 ?_;exact ⟨l.length - (k + 1), oM, [(0, _), (3, _), (4, iQ (k + 1 : Nat))], sB, k + 1, min mn x, oM, rfl, rfl, ⟨by
    rcases Int.le_total mn x with h | h
    ·rw [Int.min_eq_left h]; exact C6
    ·rw [Int.min_eq_right h]; exact gl hx, fun y hy => by
    rw [cC hx] at hy;rcases gF.1 hy with hy | hy
    ·have := xz y hy; omega
    ·simp at hy; omega⟩, hw⟩
 refine z7 ?_;exact aK rfl rfl rfl ⟨⟨mn, rfl, C6, fun x hx => xz x (by rw [oF oM]; exact hx)⟩, hw⟩
theorem uA {v : Value} {l : List Int} (hw : an G L w) (ka : aG L (qx v (bg l))) (h0 : 0 < l.length) (hl : l.length <= 1000000000) : Calls prog 173 #[v] w (bU fun r w' => (∃ m, r = iQ m /\ m ∈ l /\ ∀ x ∈ l, x <= m) /\ an G L w') := by
 obtain ⟨a, cap, rfl⟩ := (ka.at hw).form;rw [bC];rw [bC] at ka;obtain ⟨bb, oo, rfl⟩ := (ka.at hw).nn (by rw [bC]; omega);refine ad (args := [_]) func173 rfl ntmps173 rfl rfl ?_;refine Ht ?_;refine aE rfl (fun h1 => ?_) fun h1 => ?_
 ·
  exact absurd h1 oM
 refine z4 ?_;refine cR rfl bp cm rfl rfl ⟨oM, oM⟩ ?_;refine bt rfl rfl (ar.one ag ((ka.at hw).at (i := 0) (Ar h0))) ?_;refine z8 ?_;refine bF (fun m e w => ∃ (k : Nat) (mn : Int), k <= l.length /\ m = l.length - k /\ e = [(0, .slice (some ⟨bb, oo, none⟩) l.length cap), (3, iQ mn), (4, iQ k)] /\ (mn ∈ l /\ ∀ x ∈ l.take k, x <= mn) /\ an G L w)
  (m := l.length - 1) sB
  ⟨1, _, oM, rfl, rfl, by
 cases l with
 | nil => simp at h0
 | cons x l => simp, hw⟩ ?_
 rintro m e w ⟨k, mn, hk, rfl, rfl, ⟨C6, xz⟩, hw⟩;refine z8 ?_;refine aE rfl (fun h3 => ?_) fun h3 => ?_
 ·
  have gK : k < l.length := oM;obtain ⟨x, hx⟩ : ∃ x, l[k]? = some x := ⟨_, dm gK⟩;refine z7 ?_;refine cR rfl bp cm rfl rfl ⟨oM, oM⟩ ?_;refine bt rfl rfl (ar.one ag ((ka.at hw).at (u := iQ x) (by rw [ez]; simp only [bg, dg, hx]; rfl))) ?_;refine JJ rfl rfl rfl ?_;refine z7 ?_;exact ⟨l.length - (k + 1), oM, [(0, _), (3, _), (4, iQ (k + 1 : Nat))], sB, k + 1, max mn x, oM, rfl, rfl, ⟨by
    rcases Int.le_total mn x with h | h
    ·rw [Int.max_eq_right h]; exact gl hx
    ·rw [Int.max_eq_left h]; exact C6, fun y hy => by
    rw [cC hx] at hy;rcases gF.1 hy with hy | hy
    ·have := xz y hy; omega
    ·simp at hy; omega⟩, hw⟩
 refine z7 ?_;exact aK rfl rfl rfl ⟨⟨mn, rfl, C6, fun x hx => xz x (by rw [oF oM]; exact hx)⟩, hw⟩
theorem AW {refs : Int} {v : Value} {c : List Int} (hw : an G (row 3 1 v c.length (bg c) :: L) w) (hl : c.length <= 65536) (hnn : ∀ x ∈ c, 0 <= x) : Calls prog 109 #[iQ refs, v] w (bU fun r w' => ∃ q cv lv fq fv, r = pQ q /\ an G (vn q (PF refs c cv lv fq) (EJ fq fv (fK c) L)) w') := by
 obtain ⟨a, cap, rfl⟩ := aP hw;refine ad (args := [_, _]) func109 rfl ntmps109 rfl rfl ?_;refine mN ?_;refine CN rfl xk Eb Xr SK rfl rfl ⟨oM, oM⟩ oM oM hw rfl fun w rF hw => ?_;have hw : an G (ah rF (zN (List.replicate c.length false)) 4 :: row 3 1 (.slice a c.length cap) c.length (bg c) :: L) w := by
  have e : zN (List.replicate c.length false) = rep c.length (.bool false) := by simp [zN, rep]
  rw [e]; exact hw
 have hw := gS (z := 1) (m := c.length) hw (by rw [j8, JZ, EV]) mL;refine aO (v := .agg #[iQ refs, .slice a c.length cap, sQ rF c.length c.length, .pointer none, iQ 0, iQ 0, iQ 0, iQ 0, iQ 0, nQ, iQ 0]) rfl rfl (fun w => kR) ?_;refine a9 rfl rfl rfl hw rfl fun w U2 hw => ?_;have Vl : an G (vn U2 ⟨refs, c, .slice a c.length cap, List.replicate c.length false, sQ rF c.length c.length, none, 0, 0, 0, 0, 0, nQ, 0, 0⟩ L) w := by
  have hz := hw.b [ah U2 _ _, row 3 _ _ _ _, row 4 _ _ _ _]
  show an G (ah U2 _ _ :: row 3 1 _ _ _ :: row 4 1 _ (List.replicate c.length false).length _ :: _) w
  rw [JZ];exact hz
 refine z5 ?_;refine al rfl wJ rfl (xM Vl ⟨none, 0, rfl⟩ (show (0 : Int) <= 0 /\ (0 : Int) + ((0 : Nat) : Int) <= 1000000000000000 by decide) hl sM hnn) rfl fun w Sx hv => ?_;obtain ⟨-, fq, fv, hw⟩ := hv;refine z7 ?_;exact aK rfl rfl rfl ⟨U2, _, _, fq, fv, rfl, hw⟩
theorem ML {n refs : Int} (hw : an G L w) : Calls prog 51 #[iQ n, iQ refs] w (bU fun r w' => (¬ (1 <= n /\ n <= 65536 /\ 2 <= refs /\ refs < 65536) /\ r = .tuple #[.pointer none, iQ 1] /\ an G L w') ∨
  ((1 <= n /\ n <= 65536 /\ 2 <= refs /\ refs < 65536) /\ ∃ q cv lv fq fv, r = .tuple #[pQ q, iQ 0] /\ an G (vn q (PF refs (List.replicate n.toNat 0) cv lv fq) (EJ fq fv (fK (List.replicate n.toNat 0)) L)) w')) := by
 refine ad (args := [_, _]) func51 rfl ntmps51 rfl rfl ?_;refine mN ?_;refine al rfl wI rfl (yu hw) rfl fun w v8 hv => ?_;obtain ⟨rfl, hw⟩ := hv;refine fo rfl rfl ?_;refine aC ?_;refine aE rfl (fun h1 => ?_) fun h1 => ?_
 ·
  have zM : ¬ (1 <= n /\ n <= 65536 /\ 2 <= refs /\ refs < 65536) := by simpa using h1
  refine z6 ?_;exact cz rfl rfl rfl rfl (.inl ⟨zM, rfl, hw⟩)
 have zM : 1 <= n /\ n <= 65536 /\ 2 <= refs /\ refs < 65536 := by simpa using h1
 refine z5 ?_;refine CN rfl bp cm ni Es rfl rfl ⟨oM, oM⟩ oM oM hw rfl fun w U2 hw => ?_;have hw : an G (ah U2 (bg (List.replicate n.toNat 0)) 3 :: L) w := by
  have e : bg (List.replicate n.toNat 0) = rep n.toNat (iQ 0) := by simp [bg, rep]
  rw [e]; exact hw
 have hw := gS (z := 1) (m := (List.replicate n.toNat (0 : Int)).length) hw (by rw [bC, EV]) (by rw [JZ]; simp only [maxLen]; omega);refine al rfl yD rfl (AW (v := sQ U2 n.toNat n.toNat) (c := List.replicate n.toNat 0) (by rw [JZ] at hw ⊢; exact hw) (by rw [JZ]; omega) (by intro x hx; rw [List.eq_of_mem_replicate hx]; decide)) rfl (fun w NL hv => ?_);obtain ⟨q, cv, lv, fq, fv, rfl, hw⟩ := hv;refine z4 ?_;exact cz rfl rfl rfl rfl (.inr ⟨zM, q, cv, lv, fq, fv, rfl, hw⟩)
theorem Kx {refs : Int} {v : Value} {c : List Int} (hw : an G L w) (ka : aG L (qx v (bg c))) (Yy : c.length <= 1000000000) : Calls prog 95 #[iQ refs, v] w (bU fun r w' =>
  (¬ (1 <= (c.length : Int) /\ (c.length : Int) <= 65536 /\ 2 <= refs /\ refs < 65536) /\ r = .tuple #[.pointer none, iQ 1] /\ an G L w') ∨
  ((1 <= (c.length : Int) /\ (c.length : Int) <= 65536 /\ 2 <= refs /\ refs < 65536) /\ ((¬ (∀ x ∈ c, 0 <= x /\ x <= refs) /\ r = .tuple #[.pointer none, iQ 13] /\ an G L w') ∨
   ((∀ x ∈ c, 0 <= x /\ x <= refs) /\ ∃ q cv lv fq fv, r = .tuple #[pQ q, iQ 0] /\ an G (vn q (PF refs c cv lv fq) (EJ fq fv (fK c) L)) w')))) := by
 obtain ⟨a, cap, rfl⟩ := (ka.at hw).form;rw [bC];rw [bC] at ka;refine ad (args := [_, _]) func95 rfl ntmps95 rfl rfl ?_;refine Ht ?_;refine al rfl wI rfl (yu hw) rfl fun w v9 hv => ?_;obtain ⟨rfl, hw⟩ := hv;refine fo rfl rfl ?_;refine aC ?_;refine aE rfl (fun h1 => ?_) fun h1 => ?_
 ·
  have zM : ¬ (1 <= (c.length : Int) /\ (c.length : Int) <= 65536 /\ 2 <= refs /\ refs < 65536) := by simpa using h1
  refine z6 ?_;exact cz rfl rfl rfl rfl (.inl ⟨zM, rfl, hw⟩)
 have zM : 1 <= (c.length : Int) /\ (c.length : Int) <= 65536 /\ 2 <= refs /\ refs < 65536 := by simpa using h1
 refine z5 ?_;refine al rfl tH rfl (uz hw ka oM Yy) rfl fun w v12 hv => ?_;obtain ⟨⟨mn, rfl, C6, xz⟩, hw⟩ := hv;refine z2 ?_;refine ay (d := 14) rfl (fun h2 => ?_) fun h2 => ?_
 ·
  refine z6 ?_;refine bY rfl ?_;refine z6 ?_;exact cz rfl rfl rfl rfl (.inr ⟨zM, .inl ⟨fun h => by have := (h mn C6).1; omega, rfl, hw⟩⟩)
 refine z1 ?_;refine al rfl tI rfl (uA hw ka oM Yy) rfl fun w v16 hv => ?_;obtain ⟨⟨mx, rfl, Jb, hx2⟩, hw⟩ := hv;refine z4 ?_;refine aE rfl (fun h3 => ?_) fun h3 => ?_
 ·
  refine z6 ?_;exact cz rfl rfl rfl rfl (.inr ⟨zM, .inl ⟨fun h => by have := (h mx Jb).2; omega, rfl, hw⟩⟩)
 have fx : ∀ x ∈ c, 0 <= x /\ x <= refs := fun x hx => ⟨by have := xz x hx; omega, by have := hx2 x hx; omega⟩
 refine z5 ?_;refine al rfl k6 rfl (lN hw ka Yy) rfl fun w VY hv => ?_;have hw : an G (row 3 1 VY c.length (bg c) :: L) w := hv;refine al rfl yD rfl (AW hw oM (fun x hx => (fx x hx).1)) rfl fun w v23 hv => ?_;obtain ⟨q, cv, lv, fq, fv, rfl, hw⟩ := hv;refine z4 ?_;exact cz rfl rfl rfl rfl (.inr ⟨zM, .inr ⟨fx, q, cv, lv, fq, fv, rfl, hw⟩⟩)
end
section
variable {P : Program} {n : Nat} {ops : Array Oper} {dr : Bool} {done r : List Nat} {K : fm -> World -> Prop} {e : fm} {w : World} {i d : Nat} {t s kt et : TypeId} {p : String} {af : Array Edge} {g : Option (Nat × Bool)} {x y : Operand} {G : Gh} {L R : List aw} {m : Nat} {kv : KV} {a : Int}
theorem Y1 (ho : ops[i]? = some ⟨some d, .call ⟨.builtin .len, #[x], #[s]⟩, t, p, af, g⟩) (hs : P.underlying s = some (.map kt et)) (hx : ev e x = some (.map (some m)))
  (hw : an G L w) (hp : cG (bH m kv) L R) (h : XL P n ops dr (i :: done) r K ((d, iQ kv.length) :: e) w) (hd : Nat.blt d n = true := by exact rfl) (hg : Gd ops e g := by first | trivial | exact ⟨_, rfl, rfl⟩) : XL P n ops dr done (i :: r) K e w := by
 obtain ⟨es, ck, hf, nL⟩ := lL (hw.pick hp);have h1 := ey (P := P) nL.cW sM;have hl : es.size = kv.length := by
  have := congrArg List.length hf.nH
  simpa using this
 refine wV ho (by simpa [cy] using hd) hg (ρ := rh e) (by intro z hZ; simp [Op.operands, Call.operands] at hZ; exact BP hx hZ) (by simp [dk, hs]) (v := iQ kv.length) ?_ h;simp [execOp, resolve, invoke, builtin, bj hx, Builtin.len_, run_underlying hs, h1, goInt, hl]
theorem Xp {q : Nat} {z : Value} {gq : Option (Nat × Bool)} {pq : String} {aq : Array Edge} {tq : TypeId} (ho : ops[q]? = some ⟨some d, .lookup s x y true, tq, pq, aq, gq⟩) (hs : P.underlying s = some (.map kt et)) (hk : P.underlying kt = some (.int .i64)) (hz : (P.info? et).bind (·.zero) = some z) (hx : ev e x = some (.map (some m))) (hy : ev e y = some (iQ a))
  {v0 : Value} {b0 : Bool} (hv : get e d = some (.tuple #[v0, .bool b0])) (hw : an G L w) (hp : cG (bH m kv) L R) (RO : (cO kv a).getD z = v0) (VA : (cO kv a).isSome = b0) : uR P n ops q e w := by
 intro o' RS a' ha PQ;have : o' = ⟨some d, .lookup s x y true, tq, pq, aq, gq⟩ := Option.some.inj (RS.symm.trans ho);subst this;subst RO VA;obtain ⟨es, ck, hf, nL⟩ := lL (hw.pick hp);refine ⟨.tuple #[(cO kv a).getD z, .bool (cO kv a).isSome], ?_, fun d' zK => ?_⟩
 ·have PN := ha.ev hx;have hya := ha.ev hy;have h1 := ey (P := P) nL.cW sM;have h2 := s4 a kv 0;cases hi : P.info? et with
  | none => simp [hi] at hz
  | some inf =>
   have qw : inf.zero = some z := by simpa [hi] using hz
   cases uU : l8 kv a 0 with
   | none => rw [uU] at h2; simp at h2; simp [execOp, PN, hya, Instr.lookup, run_underlying hs, h1, fu hk, fZ hk hf, uU, zeroValue, typeInfo, hi, qw, <-h2]
   | some q => obtain ⟨q, u⟩ := q; rw [uU] at h2; simp at h2; simp [execOp, PN, hya, Instr.lookup, run_underlying hs, h1, fu hk, fZ hk hf, uU, <-h2]
 cases zK; exact ha.get d _ hv
end
def Za (pq : Nat) (om : Nat) (av : Value) (floor : Int) : List Value := [pQ pq, .map (some om), av, iQ floor]
def jP (on : List (Int × bT)) : KV := on.map fun x => (x.1, gQ x.2.cells)
theorem IW (n : Int) : ∀ on : List (Int × bT), cO (jP on) n = (on.find? fun x => x.1 == n).map fun x => gQ x.2.cells
 | [] => rfl
 | x :: on => by
  have ih := IW n on;simp only [jP, cH, cO, NY] at ih ⊢
  by_cases h : x.1 = n
  ·subst h; simp
  have h2 : (x.1 == n) = false := by simpa using h
  rw [h2];simp only [ih]
  first | rw [aj h] | rw [aj (fun e => h e.symm)]
section
variable {G : Gh} {L R : List aw} {w : World}
theorem Kq {n refs : Int} (hw : an G L w) : Calls prog 17 #[iQ n, iQ refs] w (bU fun r w' => (¬ (1 <= n /\ n <= 65536 /\ 2 <= refs /\ refs < 65536) /\ r = .tuple #[.pointer none, iQ 1] /\ an G L w') ∨
  ((1 <= n /\ n <= 65536 /\ 2 <= refs /\ refs < 65536) /\ ∃ vq om q cv lv fq fv, r = .tuple #[pQ vq, iQ 0] /\ an G (ah vq (Za q om (nQ) 0) 38 :: bH om (jP []) :: vn q (PF refs (List.replicate n.toNat 0) cv lv fq) (EJ fq fv (fK (List.replicate n.toNat 0)) L)) w')) := by
 refine ad (args := [_, _]) func17 rfl ntmps17 rfl rfl ?_;refine z9 ?_;refine al rfl KF rfl (ML hw) rfl fun w v11 hv => ?_;have hv : ∃ (pp : Option Addr) (er : Int), v11 = .tuple #[.pointer pp, iQ er] /\ ((er = 1 /\ ¬ (1 <= n /\ n <= 65536 /\ 2 <= refs /\ refs < 65536) /\ an G L w) \/ (er = 0 /\ (1 <= n /\ n <= 65536 /\ 2 <= refs /\ refs < 65536) /\ ∃ q cv lv fq fv, pp = some ⟨q, 0, none⟩ /\ an G (vn q (PF refs (List.replicate n.toNat 0) cv lv fq) (EJ fq fv (fK (List.replicate n.toNat 0)) L)) w)) := by
  rcases hv with ⟨h1, h2, h3⟩ | ⟨h1, q, cv, lv, fq, fv, h2, h3⟩
  ·exact ⟨none, 1, h2, .inl ⟨rfl, h1, h3⟩⟩
  exact ⟨some ⟨q, 0, none⟩, 0, h2, .inr ⟨rfl, h1, q, cv, lv, fq, fv, rfl, h3⟩⟩
 obtain ⟨pp, er, rfl, KZ⟩ := hv;refine yb ?_;refine aE rfl (fun h1 => ?_) fun h1 => ?_
 ·
  obtain ⟨rfl, hn, hw⟩ := KZ.resolve_right (fun h => h1 h.1);refine z7 ?_;exact cz rfl rfl rfl rfl (.inl ⟨hn, rfl, hw⟩)
 obtain ⟨rfl, hn, q, cv, lv, fq, fv, rfl, hw⟩ := KZ.resolve_left (fun h => h1 (by rw [h.1]; decide));refine z4 ?_;refine Ew rfl hw rfl fun w m18 hw => ?_;refine aO (v := gQ (Za q m18 (nQ) 0)) rfl rfl (fun w => kR) ?_;refine a9 rfl rfl rfl hw rfl fun w b20 hw => ?_;refine z4 ?_;exact cz rfl rfl rfl rfl (.inr ⟨hn, b20, m18, q, cv, lv, fq, fv, rfl, hw⟩)
end
def oy (S : List bT) : aw := aV (S.map cB)
theorem bT.Ok.j7 {A M B C : List aw} {p : bT} (h : p.Ok A) (e : M = B ++ (A ++ C)) : p.Ok [aV M] :=
 ⟨⟨h.its.sl.j7 e, fun x hx => ⟨(h.its.it x hx).k.j7 e, (h.its.it x hx).v.j7 e, (h.its.it x hx).sk, (h.its.it x hx).sv⟩, h.its.len⟩, h.data.j7 e, h.sd⟩
theorem bT.Ok.pick {A : aw} {L R : List aw} {p : bT} (h : p.Ok [A]) (q : cG A L R) : p.Ok L :=
 ⟨⟨(h.its.sl.head _).pick q, fun x hx => ⟨((h.its.it x hx).k.head _).pick q, ((h.its.it x hx).v.head _).pick q, (h.its.it x hx).sk, (h.its.it x hx).sv⟩, h.its.len⟩, (h.data.head _).pick q, h.sd⟩
theorem vd {S : List bT} {p : bT} (hm : p ∈ S) (hs : p.Sm) {L R : List aw} (q : cG (oy S) L R) : p.Ok L := by
 obtain ⟨B, C, rfl⟩ := V6 hm;have h1 : p.Ok [cB p] := aS hs .here;exact (h1.j7 (B := B.map cB) (C := C.map cB) sM).pick q
theorem dX {L : List aw} {p : bT} {G : Gh} {w : World} (h : p.Ok L) (hw : an G L w) : iR p.cells := fun u hu => by
 obtain ⟨a1, c1, a2, c2, h1, h2, gN⟩ := h.form hw;rw [gN] at hu;simp only [bQ, dz, or_false] at hu
 rcases hu with rfl | rfl | rfl | rfl | rfl <;> rfl
def eh : bT := ⟨0, 0, [], nQ, nQ, [], 0⟩
def w5 (on : List (Int × bT)) (n : Int) : Option bT := (on.find? fun x => x.1 == n).map (·.2)
theorem Ao (on : List (Int × bT)) (n : Int) : cO (jP on) n = (w5 on n).map fun p => gQ p.cells := by
 rw [IW, w5, Option.map_map]; rfl
abbrev Y' (vq pq om : Nat) (av : Value) (floor : Int) (p : Hr) (on : List (Int × bT)) (S : List bT) (L : List aw) : List aw := ah vq (Za pq om av floor) 38 :: bH om (jP on) :: oy S :: vn pq p L
theorem jF : (prog.info? 104).bind (·.zero) = some (.agg #[iQ 0, iQ 0, nQ, nQ, iQ 0]) := by kernel_rfl
section
variable {G : Gh} {L R : List aw} {w : World}
theorem xI {vq pq om : Nat} {av : Value} {floor n : Int} {p : Hr} {on : List (Int × bT)} {S : List bT} (hw : an G (Y' vq pq om av floor p on S L) w) (hl : p.counts.length <= 65536)
  (Uu : fS p.counts n ≠ 0 -> ∃ pg, w5 on n = some pg /\ pg ∈ S /\ pg.Sm) : Calls prog 44 #[pQ vq, iQ n] w (bU fun r w' =>
  (fS p.counts n = 0 /\ r = .tuple #[gQ eh.cells, iQ 15] /\ an G (Y' vq pq om av floor p on S L) w') ∨
  (fS p.counts n ≠ 0 /\ ∃ pg p', w5 on n = some pg /\ r = .tuple #[gQ p'.cells, iQ 0] /\ p'.pg = pg.pg /\ p'.Sm /\ an G (cB p' :: Y' vq pq om av floor p on S L) w')) := by
 refine ad (args := [_, _]) func44 rfl ntmps44 rfl rfl ?_;refine z2 ?_;refine aF rfl bE hw rfl fun w b4 hw => ?_;refine z8 ?_;refine lD aZ hw ?_;refine z1 ?_;refine al rfl dx rfl (lB (p := p) (q := pq) (hw.b [ah pq _ _, row 3 _ _ _ _, row 4 _ _ _ _]) hl) rfl fun w v11 hv => ?_;obtain ⟨rfl, hw⟩ := hv;refine z2 ?_;refine aE rfl (fun h1 => ?_) fun h1 => ?_
 ·
  refine z2 ?_;refine aO (v := gQ eh.cells) rfl rfl (fun w => kR) ?_;refine aT (cs := eh.cells) (l' := eh.cells) rfl tV rfl rfl ae rfl (by intro u hu; simp only [eh, bT.cells, bQ, dz, or_false] at hu; rcases hu with rfl | rfl | rfl | rfl | rfl <;> rfl) hw pK (by simp [eh, bT.cells]) rfl rfl (fun w hw => ?_);refine z3 ?_;exact cz rfl rfl ⟨_, rfl, (ar.cU ae hw pK rfl)⟩ rfl (.inl ⟨h1, rfl, (hw.b [ah b4 _ _, ah vq _ _, bH _ _, oy _, ah pq _ _, row 3 _ _ _ _, row 4 _ _ _ _]).tail⟩)
 obtain ⟨pg, tW, Ux, B0⟩ := Uu h1;refine z6 ?_;refine lD bV hw ?_;refine z1 ?_;refine u0 (v0 := gQ pg.cells) rfl cJ cP jF rfl rfl hw pK (by rw [Ao, tW]; rfl) ?_;refine al rfl iq rfl (je (p := pg) hw (vd Ux B0 pK)) rfl fun w v20 hv => ?_;obtain ⟨p', rfl, Dy, gG, hw⟩ := hv;refine aT (cs := p'.cells) (l' := p'.cells) rfl tV rfl rfl ae rfl (dX (aS gG pK) hw) hw pK (by simp [bT.cells]) rfl rfl fun w hw => ?_;refine z3 ?_;exact cz rfl rfl ⟨_, rfl, (ar.cU ae hw pK rfl)⟩ rfl (.inr ⟨h1, pg, p', tW, rfl, Dy, gG, (hw.b [ah b4 _ _, cB _, ah vq _ _, bH _ _, oy _, ah pq _ _, row 3 _ _ _ _, row 4 _ _ _ _]).tail⟩)
end
def um (x : Int × bT) : List Value := iQ x.1 :: x.2.cells
def oS (c : List Int) : List Int -> List (Int × Pg) -> Int
 | _, [] => 0
 | seen, x :: r => if fS c x.1 = 0 then 15 else if x.1 ∈ seen then 10 else if cM x.2 ≠ 0 then cM x.2 else oS c (x.1 :: seen) r
def qN (refs : Int) (c : List Int) : Int := if ¬ (1 <= (c.length : Int) /\ (c.length : Int) <= 65536 /\ 2 <= refs /\ refs < 65536) then 1 else if ¬ (∀ x ∈ c, 0 <= x /\ x <= refs) then 13 else 0
def qL (refs : Int) (c : List Int) (l : List (Int × Pg)) : Int := if qN refs c ≠ 0 then qN refs c else if oS c [] l ≠ 0 then oS c [] l else if (l.length : Int) < jq c 4 then 9 else 0
def s0 (l : List (Int × bT)) : List (Int × Pg) := l.map fun x => (x.1, x.2.pg)
theorem Zu (l : List (Int × bT)) : ∀ r ∈ l.map um, r.length = 6 := fun r hr => by obtain ⟨x, _, rfl⟩ := dE.1 hr; rfl
theorem E9 (on : List (Int × bT)) (n : Int) : (w5 on n).isSome = true ↔ n ∈ on.map (·.1) := by
 unfold w5;rw [Option.isSome_map, List.find?_isSome];simp only [dE, beq_iff_eq]
theorem PI {on : List (Int × bT)} {n : Int} {p : bT} (h : w5 on n = some p) : (n, p) ∈ on := by
 unfold w5 at h;obtain ⟨x, hx, rfl⟩ := Option.map_eq_some_iff.1 h;have h1 := List.find?_some hx;have h2 := Tx hx;simp at h1
 rw [<-h1]; exact h2
theorem IX (on : List (Int × bT)) : (jP on).map (·.1) = on.map (·.1) := by simp [jP, Hx, Function.comp_def]
theorem TV {on : List (Int × bT)} {n : Int} {p : bT} (h : n ∉ on.map (·.1)) : lr (jP on) n (gQ p.cells) = jP (on ++ [(n, p)]) := by
 rw [Fk (by rw [IX]; exact h)];simp [jP]
theorem TG {l : List (Int × bT)} {k : Nat} {x : Int × bT} (h : l[k]? = some x) : (s0 l).drop k = (x.1, x.2.pg) :: (s0 l).drop (k + 1) := eF (by unfold s0; rw [dg, h]; rfl)
section
variable {G : Gh} {L R : List aw} {w : World}
theorem HU {refs : Int} {vc vl : Value} {c : List Int} {l : List (Int × bT)} (hw : an G L w) (kc : aG L (qx vc (bg c))) (Yy : c.length <= 1000000000) (kl : aG L (g7 6 vl (l.map um))) (Jf : ∀ x ∈ l, x.2.Ok L) (nM : l.length <= 1000000000) :
  Calls prog 37 #[iQ refs, vc, vl] w (bU fun r w' => (qL refs c (s0 l) ≠ 0 /\ r = .tuple #[.pointer none, iQ (qL refs c (s0 l))] /\ an G L w') ∨
   (qL refs c (s0 l) = 0 /\ ∃ vq pq om cv lv fq fv on, r = .tuple #[pQ vq, iQ 0] /\ s0 on = s0 l /\ (∀ x ∈ on, x.2.Sm) /\ an G (Y' vq pq om (nQ) 0 (PF refs c cv lv fq) on (on.map (·.2)) (EJ fq fv (fK c) L)) w')) := by
 obtain ⟨la, lc, h1, -, -⟩ := (kl.at hw).form;rw [bX] at h1;subst h1;refine ad (args := [_, _, _]) func37 rfl ntmps37 rfl rfl ?_;refine z9 ?_;refine al rfl Ij rfl (Kx hw kc Yy) rfl fun w Sw hv => ?_;have hv : ∃ (pp : Option Addr) (er : Int), Sw = .tuple #[.pointer pp, iQ er] /\ ((er ≠ 0 /\ er = qN refs c /\ an G L w) \/ (er = 0 /\ qN refs c = 0 /\ (1 <= (c.length : Int) /\ (c.length : Int) <= 65536) /\ ∃ q cv lv fq fv, pp = some ⟨q, 0, none⟩ /\ an G (vn q (PF refs c cv lv fq) (EJ fq fv (fK c) L)) w)) := by
  rcases hv with ⟨h1, h2, h3⟩ | ⟨h1, ⟨h2, h3, h4⟩ | ⟨h2, q, cv, lv, fq, fv, h3, h4⟩⟩
  ·exact ⟨none, 1, h2, .inl ⟨by decide, by unfold qN; rw [ao h1], h3⟩⟩
  ·exact ⟨none, 13, h3, .inl ⟨by decide, by unfold qN; rw [aj (fun h => h h1), ao h2], h4⟩⟩
  exact ⟨some ⟨q, 0, none⟩, 0, h3, .inr ⟨rfl, by unfold qN; rw [aj (fun h => h h1), aj (fun h => h h2)], ⟨h1.1, h1.2.1⟩, q, cv, lv, fq, fv, rfl, h4⟩⟩
 obtain ⟨pp, er, rfl, KZ⟩ := hv;refine yb ?_;refine aE rfl (fun h1 => ?_) fun h1 => ?_
 ·
  obtain ⟨-, rfl, hw⟩ := KZ.resolve_right (fun h => h1 h.1);refine z7 ?_;exact cz rfl rfl rfl rfl (.inl ⟨by unfold qL; rw [ao h1]; exact h1, by unfold qL; rw [ao h1], hw⟩)
 obtain ⟨rfl, kO, gN, q, cv, lv, fq, fv, rfl, hw⟩ := KZ.resolve_left (fun h => h.1 oM);have RN : qL refs c (s0 l) = if oS c [] (s0 l) ≠ 0 then oS c [] (s0 l) else if (l.length : Int) < jq c 4 then 9 else 0 := by unfold qL; rw [aj oM, show (s0 l).length = l.length from bX ..]
 refine z4 ?_;refine Ew rfl hw rfl fun w m26 hw => ?_;refine aO (v := gQ (Za q m26 (nQ) 0)) rfl rfl (fun w => kR) ?_;refine a9 rfl rfl rfl hw rfl fun w b28 hw => ?_;refine z6 ?_;refine eJ rfl kR jA rfl ?_;refine z3 ?_;have hw := bI hw 3 1;have hw := hw.tail;have hw := an.bz (M := ([] : List bT).map cB) hw;have hw := hw.b [ah b28 _ _, bH _ _, aV _, ah q _ _, row 3 _ _ _ _, row 4 _ _ _ _, ah fq _ _, row 379 _ _ _ _];refine bF (fun m e w => ∃ (k : Nat) (on : List (Int × bT)), k <= l.length /\ m = l.length - k /\ e = [(10, pQ b28), (29, .slice la l.length lc), (30, iQ l.length), (31, iQ k)] /\ (s0 on = (s0 l).take k /\ (∀ x ∈ on, x.2.Sm) /\ oS c [] (s0 l) = oS c ((((s0 l).take k).map (·.1)).reverse) ((s0 l).drop k)) /\ an G (Y' b28 q m26 (nQ) 0 (PF refs c cv lv fq) on (on.map (·.2)) (EJ fq fv (fK c) L)) w)
  (m := l.length) sB
  ⟨0, [], dy _, rfl, rfl, ⟨rfl, (fun x hx => by cases hx), rfl⟩, hw⟩ ?_
 rintro m e w ⟨k, on, hk, rfl, rfl, ⟨WT, WS, PW⟩, hw⟩;refine z5 ?_;refine aE rfl (fun h2 => ?_) fun h2 => ?_
 ·
  have gK : k < l.length := oM;obtain ⟨x, hx⟩ : ∃ x, l[k]? = some x := ⟨_, dm gK⟩;have me := Jf x (gl hx);have tU : (l.map um)[k]? = some (um x) := by rw [dg, hx]; rfl
  have Yz : on.map (·.1) = ((s0 l).take k).map (·.1) := by rw [<-WT]; simp [s0, Hx, Function.comp_def]
  rw [TG hx] at PW;simp only [oS, List.mem_reverse, <-Yz] at PW
  obtain ⟨bb, oo, rfl⟩ := ((kl.of sF).at hw).nn (by rw [bX]; omega);have yj : ∃ p0 : bT, (cO (jP on) x.1).getD (gQ eh.cells) = gQ p0.cells /\ iR p0.cells := by
   rw [Ao];cases hf : w5 on x.1 with
   | none => exact ⟨eh, rfl, by intro u hu; simp only [eh, bT.cells, bQ, dz, or_false] at hu; rcases hu with rfl | rfl | rfl | rfl | rfl <;> rfl⟩
   | some p0 =>
    have hm := PI hf;exact ⟨p0, rfl, dX (vd (S := on.map (·.2)) (dE.2 ⟨_, hm, rfl⟩) (WS _ hm) (.there (.there .here))) hw⟩
  obtain ⟨p0, Mj, Bu⟩ := yj;have VA : (cO (jP on) x.1).isSome = decide (x.1 ∈ on.map (·.1)) := by
   rw [Ao, Option.isSome_map]
   by_cases h : x.1 ∈ on.map (·.1)
   ·rw [decide_eq_true h]; exact (E9 _ _).2 h
   rw [decide_eq_false h];cases h9 : (w5 on x.1).isSome with
   | false => rfl
   | true => exact absurd ((E9 _ _).1 h9) h
  refine z5 ?_;refine eY rfl jA oC rfl rfl ⟨oM, oM⟩ ?_;refine bt rfl rfl (ar.many qP rfl (by rw [ez]; exact ((kl.of sF).at hw).at tU)) ?_;refine aF rfl Eu hw rfl fun w U2 hw => ?_;refine aT (cs := um x) (l' := um x) rfl tV rfl rfl qP rfl (by intro u hu; rcases bQ.1 hu with rfl | hu; rfl; exact dX (me.of sF) hw u hu) hw pK (by simp [um, bT.cells]) rfl rfl (fun w hw => ?_);refine z3 ?_;refine bd [0, 1, 2, 3, 4, 5, 6, 7] bJ kR ?_;replace hw := hw.drawn (w.drawn + 1);refine z3 ?_;refine lD aZ hw ?_;refine z1 ?_;refine lD ag hw ?_;refine al rfl dx rfl (lB (p := PF refs c cv lv fq) (q := q) (hw.b [ah q _ _, row 3 _ _ _ _, row 4 _ _ _ _]) (show c.length <= 65536 by omega)) kR fun w v41 hv => ?_;obtain ⟨rfl, hw⟩ := hv;refine z2 ?_;refine aE rfl (fun h3 => ?_) fun h3 => ?_
  ·
   refine z6 ?_;exact cz rfl rfl rfl rfl (.inl (by
 have Xb : fS c x.1 = 0 := h3;rw [ao Xb] at PW;have e15 : qL refs c (s0 l) = 15 := by rw [RN, PW, ao dM]
 exact ⟨by rw [e15]; decide, by rw [e15], (by repeat (first | exact hw | replace hw := hw.tail))⟩))
  have Xb : ¬ fS c x.1 = 0 := h3;rw [aj Xb] at PW;refine z3 ?_;refine bd [0, 1, 2, 3, 4, 5, 6, 7, 8, 9, 10, 11, 12] bJ kR ?_;replace hw := hw.drawn (w.drawn + 1);refine z3 ?_;refine lD bV hw ?_;refine z1 ?_;refine lD ag hw ?_;refine SZ (v0 := gQ p0.cells) (b0 := decide (x.1 ∈ on.map (·.1))) rfl cJ cP jF rfl rfl hw pK Mj VA ?_;refine z3 ?_;refine pT rfl bE hw (fun w b13 hw q' hq => ?_) fun w b13 hw => ?_
  ·
   have hq := bm (l := [6, 5, 3]) kR hq;simp only [bQ, dz, or_false] at hq;rcases hq with rfl | rfl | rfl
   ·exact Xp rfl cJ cP jF rfl rfl rfl hw pK Mj VA
   ·exact bx rfl rfl rfl (ar.bL ag hw pK rfl)
   exact bx rfl rfl rfl (ar.bL bV hw pK rfl)
  refine aT (cs := p0.cells) (l' := p0.cells) rfl tV rfl rfl ae rfl Bu hw pK (by simp [bT.cells]) rfl kR fun w hw => ?_;refine z6 ?_;refine aE rfl (fun h4 => ?_) fun h4 => ?_
  ·
   refine z6 ?_;exact cz rfl rfl rfl rfl (.inl (by
 rw [ao h4] at PW;have e10 : qL refs c (s0 l) = 10 := by rw [RN, PW, ao dM]
 exact ⟨by rw [e10]; decide, by rw [e10], (by repeat (first | exact hw | replace hw := hw.tail))⟩))
  rw [aj h4] at PW;refine z5 ?_;refine bt rfl rfl (ar.tL (cs := x.2.cells) ae hw pK rfl rfl) ?_;refine al rfl j5 rfl (k3 (p := x.2) hw (me.of sF)) rfl fun w v56 hv => ?_;obtain ⟨rfl, hw⟩ := hv;refine z7 ?_;refine aE rfl (fun h5 => ?_) fun h5 => ?_
  ·
   refine z7 ?_;exact cz rfl rfl rfl rfl (.inl (by
 rw [ao h5] at PW;have ek : qL refs c (s0 l) = cM x.2.pg := by rw [RN, PW, ao h5]
 exact ⟨by rw [ek]; exact h5, by rw [ek], (by repeat (first | exact hw | replace hw := hw.tail))⟩))
  rw [aj h5] at PW;refine dS ?_;refine bd [0, 1, 2, 3, 4, 5, 6, 7, 8, 9] bJ kR ?_;replace hw := hw.drawn (w.drawn + 1);refine z3 ?_;refine lD bV hw ?_;refine z1 ?_;refine lD ag hw ?_;refine z1 ?_;refine bt rfl rfl (ar.tL (cs := x.2.cells) ae hw pK rfl rfl) ?_;refine dJ rfl iq rfl (je (p := x.2) hw (me.of sF)) (fun w v68 hv q' hq => ?_) fun w v68 hv => ?_
  ·
   obtain ⟨p', rfl, Dy, gG, hw⟩ := hv;have hq := bm (l := [5, 3]) kR hq;simp only [bQ, dz, or_false] at hq;rcases hq with rfl | rfl
   ·exact bx rfl rfl rfl (ar.bL ag hw pK rfl)
   exact bx rfl rfl rfl (ar.bL bV hw pK rfl)
  obtain ⟨p', rfl, Dy, gG, hw⟩ := hv;refine Ld rfl tV cJ cP rfl rfl rfl hw pK kR fun w hw => ?_;refine z5 ?_;rw [TV h4] at hw;have hw := an.gp (hw.b [oy _, cB p']);have hpx : (s0 l)[k]? = some (x.1, x.2.pg) := by unfold s0; rw [dg, hx]; rfl
  have hw := (hw.b [ah b13 _ _, ah U2 _ _, ah b28 _ _, bH _ _, aV _, ah q _ _, row 3 _ _ _ _, row 4 _ _ _ _, ah fq _ _, row 379 _ _ _ _]).tail.tail;refine ⟨l.length - (k + 1), oM, [(10, _), (29, _), (30, _), (31, iQ (k + 1 : Nat))], sB, k + 1, on ++ [(x.1, p')], oM, rfl, rfl, ⟨?_, ?_, ?_⟩, ?_⟩
  ·rw [cC hpx, <-WT, <-Dy]; simp [s0]
  ·intro y hy;rcases gF.1 hy with hy | hy
   ·exact WS y hy
   simp at hy; subst hy; exact gG
  ·rw [cC hpx, kz, List.reverse_append, <-Yz]; exact PW
  show an G (ah b28 _ _ :: bH _ _ :: aV ((on ++ [(x.1, p')]).map (·.2) |>.map cB) :: _) w
  have e : ((on ++ [(x.1, p')]).map (·.2)).map cB = (on.map (·.2)).map cB ++ [cB p'] := by simp
  rw [e]; exact hw
 have pA : k = l.length := oM;subst pA;rw [show (s0 l).drop l.length = [] from vm (by simp [s0])] at PW;rw [oF (by simp [s0])] at WT
 have mF : (jP on).length = l.length := by
  have h := congrArg List.length WT
  simpa [s0, jP] using h
 have Aw : oS c [] (s0 l) = 0 := PW;rw [Aw, aj dM] at RN;refine z3 ?_;refine bd [0, 1, 2, 3, 4, 5, 6, 7, 8, 9, 10] bJ kR ?_;replace hw := hw.drawn (w.drawn + 1);refine z3 ?_;refine lD bV hw ?_;refine Y1 rfl cJ rfl hw pK ?_;refine z3 ?_;refine lD aZ hw ?_;refine al rfl xY rfl (zo (p := PF refs c cv lv fq) (q := q) (k := 4) (hw.b [ah q _ _, row 3 _ _ _ _, row 4 _ _ _ _])) kR fun w v79 hv => ?_;obtain ⟨rfl, hw⟩ := hv;refine z2 ?_;refine aE rfl (fun h6 => ?_) fun h6 => ?_
 ·
  refine z6 ?_;exact cz rfl rfl rfl rfl (.inl (by
 have h6' : ((jP on).length : Int) < jq c 4 := h6;rw [mF] at h6';rw [ao h6'] at RN
 exact ⟨by rw [RN]; decide, by rw [RN], (by repeat (first | exact hw | replace hw := hw.tail))⟩))
 refine z8 ?_;exact cz rfl rfl rfl rfl (.inr (by
 have h6' : ¬ ((jP on).length : Int) < jq c 4 := h6;rw [mF] at h6';rw [aj h6'] at RN
 have hz := hw.b [ah b28 _ _, bH _ _, oy _, ah q _ _, row 3 _ _ _ _, row 4 _ _ _ _, ah fq _ _, row 379 _ _ _ _];exact ⟨RN, b28, q, m26, cv, lv, fq, fv, on, rfl, WT, WS, hz⟩))
end
structure RvV where
 r : Int
 c : List Int
 cv : Value
 l : List Bool
 lv : Value
 p : List bT
 pv : Value
 av : Value
 floor : Int
 adT : Bool

theorem Ee {l : List Int} {k : Nat} {x : Int} (h : l[k]? = some x) : (bg l)[k]? = some (iQ x) := by simp only [bg, dg, h]; rfl
section
variable {G : Gh} {L R : List aw} {w : World}
theorem si {v u : Value} {l l' : List Int} (hw : an G L w) (ka : aG L (qx v (bg l))) (kb : aG L (qx u (bg l'))) (hl : l.length <= 1000000000) : Calls prog 43 #[v, u] w (bU fun r w' => r = .bool (decide (l = l')) /\ an G L w') := by
 obtain ⟨a, cap, rfl⟩ := (ka.at hw).form;obtain ⟨a', cap', rfl⟩ := (kb.at hw).form;rw [bC, bC];rw [bC] at ka kb;refine ad (args := [_, _]) func43 rfl ntmps43 rfl rfl ?_;refine VI ?_;refine aE rfl (fun h1 => ?_) fun h1 => ?_
 ·
  refine z5 ?_;exact aK rfl rfl rfl ⟨congrArg Value.bool (decide_eq_false (fun h => by subst h; omega)).symm, hw⟩
 refine z9 ?_;refine bF (fun m e w => ∃ k : Nat, k <= l.length /\ m = l.length - k /\ e = [(0, .slice a l.length cap), (1, .slice a' l'.length cap'), (12, iQ l.length), (13, iQ k)] /\ l.take k = l'.take k /\ an G L w)
  (m := l.length) sB
  ⟨0, dy _, rfl, rfl, rfl, hw⟩ ?_
 rintro m e w ⟨k, hk, rfl, rfl, hE, hw⟩;refine z5 ?_;refine aE rfl (fun h2 => ?_) fun h2 => ?_
 ·
  have gK : k < l.length := oM;obtain ⟨x, hx⟩ : ∃ x, l[k]? = some x := ⟨_, dm gK⟩;obtain ⟨y, hy⟩ : ∃ y, l'[k]? = some y := ⟨_, dm oM⟩;obtain ⟨bb, oo, rfl⟩ := (ka.at hw).nn (by rw [bC]; omega);obtain ⟨b2, o2, rfl⟩ := (kb.at hw).nn (by rw [bC]; omega);refine z9 ?_;refine bd [0, 1, 2, 3, 4, 5, 6, 7, 8] bJ kR ?_;replace hw := hw.drawn (w.drawn + 1);refine z2 ?_;refine cR rfl bp cm rfl rfl ⟨oM, oM⟩ ?_;refine bt rfl rfl (ar.one ag ((ka.at hw).at (by rw [ez]; exact Ee hx))) ?_;refine z2 ?_;refine cR rfl bp cm rfl rfl ⟨oM, oM⟩ ?_;refine bt rfl rfl (ar.one ag ((kb.at hw).at (by rw [ez]; exact Ee hy))) ?_;refine z2 ?_;refine aE rfl (fun h3 => ?_) fun h3 => ?_
  ·
   refine z5 ?_;exact aK rfl rfl rfl ⟨congrArg Value.bool (decide_eq_false (fun h => by
 subst h;rw [hx] at hy;exact h3 (Option.some.inj hy))).symm, hw⟩
  refine z5 ?_;exact ⟨l.length - (k + 1), oM, [(0, _), (1, _), (12, _), (13, iQ (k + 1 : Nat))], sB, k + 1, oM, rfl, rfl, by rw [cC hx, cC hy, hE, c6.1 h3], hw⟩
 refine z6 ?_;exact aK rfl rfl rfl ⟨congrArg Value.bool (decide_eq_true (by
 rw [oF oM, oF oM] at hE;exact hE)).symm, hw⟩
end
structure Tr where
 root : Int
 aQ : Int
 items : Int
deriving DecidableEq
def br (t : Tr) : List Value := [iQ t.root, iQ t.aQ, iQ t.items]
def eK (x : Int × Tr) : List Value := [iQ x.1, iQ x.2.root, iQ x.2.aQ, iQ x.2.items]
theorem ab5 {α β : Type} {f : α -> β} {l : List α} {a b c : β} (h : l.map f = [a, b, c]) : ∃ x y z, l = [x, y, z] /\ f x = a /\ f y = b /\ f z = c := by
 match l, h with
 | [x, y, z], h => simp at h; exact ⟨x, y, z, rfl, h.1, h.2.1, h.2.2⟩
theorem ab6 {α β : Type} {f : α -> β} {l : List α} {a b : β} (h : l.map f = [a, b]) : ∃ x y, l = [x, y] /\ f x = a /\ f y = b := by
 match l, h with
 | [x, y], h => simp at h; exact ⟨x, y, rfl, h.1, h.2⟩
theorem CR (d : Nat) (w : World) (a b : Tr) : (Op.equalIn (d + 2) 62 (gQ (br a)) (gQ (br b))).run prog w = .ok (decide (a.root = b.root /\ a.aQ = b.aQ /\ a.items = b.items)) w := by
 have hf : ((prog.fieldsOf 62).toList.map fun f => (f.name != "_", f.type, f.offset)) = [(true, 3, 0), (true, 3, 1), (true, 3, 2)] := by kernel_rfl
 obtain ⟨f1, f2, f3, h, h1, h2, h3⟩ := ab5 hf;have hu : prog.underlying 3 = some (.int .i64) := cP;have hi : (prog.info? 3).map (·.size) = some 1 := cm;simp only [Prod.mk.injEq, bne_iff_ne, ne_eq] at h1 h2 h3;have hp : ∀ (xs : Array Value) (o : Nat) (v : Value) (w : World), xs[o]? = some v -> (part 3 xs o).run prog w = .ok v w := by
  intro xs o v w hv;exact run_part_plain w kR hv
 rw [run_equalIn_agg _ _ _ _ _ kR kR, h];simp [Op.eqFields, h1, h2, h3, hp, br, run_equalIn_int _ _ _ _ _ _ _ hu]
 by_cases e1 : a.root = b.root <;> by_cases e2 : a.aQ = b.aQ <;> by_cases e3 : a.items = b.items <;> simp [e1, e2, e3]
structure Rp where
 trees : Int
 pages : Int
 leaves : Int
 index : Int
 Bi : Int
 items : Int
 bytes : Int
 bad : List Int
deriving DecidableEq
structure qu where
 r : Rp
 bv : Value
def qu.cells (a : qu) : List Value := [iQ a.r.trees, iQ a.r.pages, iQ a.r.leaves, iQ a.r.index, iQ a.r.Bi, iQ a.r.items, iQ a.r.bytes, a.bv]
structure qu.Ok (L : List aw) (a : qu) : Prop where
 bad : aG L (qx a.bv (bg a.r.bad))
 len : a.r.bad.length <= 1000000000
theorem Mf {l : List Int} {k : Nat} (h : k < l.length) : (bg l)[(k : Int).toNat]? = some (iQ (l.getD k 0)) := by simp [bg, h]
theorem qu.Ok.of {L L' : List aw} {a : qu} (h : a.Ok L) (s : Sn L L') : a.Ok L' := ⟨h.bad.of s, h.len⟩
theorem Ye (a b : Rp) : a = b ↔ (a.trees = b.trees /\ a.pages = b.pages /\ a.leaves = b.leaves /\ a.index = b.index /\ a.Bi = b.Bi /\ a.items = b.items /\ a.bytes = b.bytes) /\ a.bad = b.bad := by
 obtain ⟨a1, a2, a3, a4, a5, a6, a7, a8⟩ := a;obtain ⟨b1, b2, b3, b4, b5, b6, b7, b8⟩ := b;simp only [Rp.mk.injEq, and_assoc]
section
variable {G : Gh} {L R : List aw} {w : World}
theorem oL {v v' : Value} {l l' : List Int} (hw : an G L w) (ka : aG L (qx v (bg l))) (kb : aG L (qx v' (bg l'))) (hl : l.length <= 140737488355328) (Ke : l'.length <= 140737488355328) :
  Calls prog 15 #[v, v'] w (bU fun r w' => r = .bool (decide (l = l')) /\ an G L w') := by
 obtain ⟨a, cap, rfl⟩ := ((ka.of sF).at hw).form;obtain ⟨a', cap', rfl⟩ := ((kb.of sF).at hw).form;simp only [bC] at ka kb ⊢;refine ad (args := [_, _]) func15 rfl ntmps15 rfl rfl ?_;refine VI ?_;refine aE rfl (fun h1 => ?_) fun h1 => ?_
 ·
  have qF : ¬ l = l' := fun h => by subst h; omega
  refine z5 ?_;exact aK rfl rfl rfl ⟨by simp [qF], hw⟩
 have nM : l.length = l'.length := oM;refine z7 ?_;refine bF (fun m e w => ∃ k : Nat, k <= l.length /\ m = l.length - k /\ e = [(0, .slice a l.length cap), (1, .slice a' l'.length cap'), (5, iQ k)] /\ (∀ j, j < k -> l.getD j 0 = l'.getD j 0) /\ an G L w)
  (m := l.length) sB
  ⟨0, dy _, rfl, rfl, (fun j h => by omega), hw⟩ ?_
 rintro m e w ⟨k, hk, rfl, rfl, hci, hw⟩;refine z8 ?_;refine aE rfl (fun h2 => ?_) fun h2 => ?_
 ·
  have gK : k < l.length := oM;obtain ⟨b, o, rfl⟩ := ((ka.of sF).at hw).nn (by rw [bC]; omega);obtain ⟨b', o', rfl⟩ := ((kb.of sF).at hw).nn (by rw [bC]; omega);refine z4 ?_;refine bd [0, 1, 2, 3, 4, 5, 6, 7, 8] bJ kR ?_;replace hw := hw.drawn (w.drawn + 1);refine z2 ?_;refine cR rfl bp cm rfl rfl ⟨oM, oM⟩ ?_;refine bt rfl rfl (ar.one ag (((ka.of sF).at hw).at (Mf gK))) ?_;refine z2 ?_;refine cR rfl bp cm rfl rfl ⟨oM, oM⟩ ?_;refine bt rfl rfl (ar.one ag (((kb.of sF).at hw).at (Mf (by omega : k < l'.length)))) ?_;refine z2 ?_;refine aE rfl (fun h3 => ?_) fun h3 => ?_
  ·
   have qF : ¬ l = l' := fun h => h3 (by rw [h])
   refine z5 ?_;exact aK rfl rfl rfl ⟨by simp [qF], hw⟩
  refine z6 ?_;refine ⟨l.length - (k + 1), oM, [(0, _), (1, _), (5, iQ (k + 1 : Nat))], sB, k + 1, oM, rfl, rfl, fun j hj => ?_, hw⟩
  by_cases Mn : j = k
  ·subst Mn; exact c6.1 h3
  exact hci j oM
 refine z6 ?_;exact aK rfl rfl rfl (by
 have Jg : k = l.length := oM;have he : l = l' := by
  apply Re nM;intro j h1 h2;have := hci j oM
  simpa [h1, h2] using this
 exact ⟨by simp [he], hw⟩)
theorem AS {a b : qu} (hw : an G L w) (ha : a.Ok L) (hb : b.Ok L) : Calls prog 50 #[gQ a.cells, gQ b.cells] w (bU fun u w' => u = .bool (decide (a.r = b.r)) /\ an G L w') := by
 have B6 := ha.bad;have R0 := hb.bad;have hal := ha.len;have s8 := hb.len;refine ad (args := [_, _]) func50 rfl ntmps50 rfl rfl ?_;refine z2 ?_;refine a9 rfl rfl rfl hw rfl fun w b2 hw => ?_;refine a9 rfl rfl rfl hw rfl fun w b3 hw => ?_;refine z5 ?_;refine lD ag hw ?_;refine z1 ?_;refine lD ag hw ?_;refine z2 ?_;refine cu (l1 := [6, 7, 8, 9, 10, 11]) (l2 := [12, 13, 14, 15, 16, 17, 18, 19, 20, 21, 22, 23, 24, 25, 26, 27, 28, 29, 30, 31, 32, 33, 34, 35, 36, 37, 38, 39, 40, 41, 42, 43, 44, 45, 46, 47, 48, 49, 50, 51, 52, 53, 54]) rfl (d := 16) (a.r.trees = b.r.trees /\ a.r.pages = b.r.pages) rfl ?_ ?_
 ·
  refine ay (d := 10) rfl (fun h1 => ?_) fun h1 => ?_
  ·
   refine z1 ?_;refine lD ag hw ?_;refine z1 ?_;refine lD ag hw ?_;refine z3 ?_;refine cQ ?_;exact dC
  refine z7 ?_;refine cQ ?_;exact dC
 refine z1 ?_;refine cu (l1 := [13, 14, 15, 16, 17, 18]) (l2 := [19, 20, 21, 22, 23, 24, 25, 26, 27, 28, 29, 30, 31, 32, 33, 34, 35, 36, 37, 38, 39, 40, 41, 42, 43, 44, 45, 46, 47, 48, 49, 50, 51, 52, 53, 54]) rfl (d := 23) (a.r.trees = b.r.trees /\ a.r.pages = b.r.pages /\ a.r.leaves = b.r.leaves) rfl ?_ ?_
 ·
  refine ay (d := 17) rfl (fun h2 => ?_) fun h2 => ?_
  ·
   refine z1 ?_;refine lD ag hw ?_;refine z1 ?_;refine lD ag hw ?_;refine z3 ?_;refine cQ ?_;exact dC
  refine z7 ?_;refine cQ ?_;exact dC
 refine z1 ?_;refine cu (l1 := [20, 21, 22, 23, 24, 25]) (l2 := [26, 27, 28, 29, 30, 31, 32, 33, 34, 35, 36, 37, 38, 39, 40, 41, 42, 43, 44, 45, 46, 47, 48, 49, 50, 51, 52, 53, 54]) rfl (d := 30) (a.r.trees = b.r.trees /\ a.r.pages = b.r.pages /\ a.r.leaves = b.r.leaves /\ a.r.index = b.r.index) rfl ?_ ?_
 ·
  refine ay (d := 24) rfl (fun h3 => ?_) fun h3 => ?_
  ·
   refine z1 ?_;refine lD ag hw ?_;refine z1 ?_;refine lD ag hw ?_;refine z3 ?_;refine cQ ?_;exact dC
  refine z7 ?_;refine cQ ?_;exact dC
 refine z1 ?_;refine cu (l1 := [27, 28, 29, 30, 31, 32]) (l2 := [33, 34, 35, 36, 37, 38, 39, 40, 41, 42, 43, 44, 45, 46, 47, 48, 49, 50, 51, 52, 53, 54]) rfl (d := 37) (a.r.trees = b.r.trees /\ a.r.pages = b.r.pages /\ a.r.leaves = b.r.leaves /\ a.r.index = b.r.index /\ a.r.Bi = b.r.Bi) rfl ?_ ?_
 ·
  refine ay (d := 31) rfl (fun h4 => ?_) fun h4 => ?_
  ·
   refine z1 ?_;refine lD ag hw ?_;refine z1 ?_;refine lD ag hw ?_;refine z3 ?_;refine cQ ?_;exact dC
  refine z7 ?_;refine cQ ?_;exact dC
 refine z1 ?_;refine cu (l1 := [34, 35, 36, 37, 38, 39]) (l2 := [40, 41, 42, 43, 44, 45, 46, 47, 48, 49, 50, 51, 52, 53, 54]) rfl (d := 44) (a.r.trees = b.r.trees /\ a.r.pages = b.r.pages /\ a.r.leaves = b.r.leaves /\ a.r.index = b.r.index /\ a.r.Bi = b.r.Bi /\ a.r.items = b.r.items) rfl ?_ ?_
 ·
  refine ay (d := 38) rfl (fun h5 => ?_) fun h5 => ?_
  ·
   refine z1 ?_;refine lD ag hw ?_;refine z1 ?_;refine lD ag hw ?_;refine z3 ?_;refine cQ ?_;exact dC
  refine z7 ?_;refine cQ ?_;exact dC
 refine z1 ?_;refine cu (l1 := [41, 42, 43, 44, 45, 46]) (l2 := [47, 48, 49, 50, 51, 52, 53, 54]) rfl (d := 51) (a.r.trees = b.r.trees /\ a.r.pages = b.r.pages /\ a.r.leaves = b.r.leaves /\ a.r.index = b.r.index /\ a.r.Bi = b.r.Bi /\ a.r.items = b.r.items /\ a.r.bytes = b.r.bytes) rfl ?_ ?_
 ·
  refine ay (d := 45) rfl (fun h6 => ?_) fun h6 => ?_
  ·
   refine z1 ?_;refine lD ag hw ?_;refine z1 ?_;refine lD ag hw ?_;refine z3 ?_;refine cQ ?_;exact dC
  refine z7 ?_;refine cQ ?_;exact dC
 refine z1 ?_;refine ay (d := 52) rfl (fun h7 => ?_) fun h7 => ?_
 ·
  refine z1 ?_;refine lD dU hw ?_;refine z1 ?_;refine lD dU hw ?_;refine al rfl nh rfl (oL hw (B6.of sF) (R0.of sF) oM oM) rfl fun w v57 hv => ?_;obtain ⟨rfl, hw⟩ := hv;refine z4 ?_;exact aK rfl rfl rfl ⟨congrArg Value.bool (cd.2 ((Ye a.r b.r).trans (and_iff_right h7)).symm), hw.tail.tail⟩
 refine z9 ?_;exact aK rfl rfl rfl ⟨congrArg Value.bool (decide_eq_false (fun h => h7 ((Ye a.r b.r).1 h).1)).symm, hw.tail.tail⟩
theorem kQ {a b : qu} (hw : an G L w) (ha : a.Ok L) (hb : b.Ok L) : Calls prog 14 #[gQ a.cells, gQ b.cells] w (bU fun u w' => u = .bool (decide (a.r = b.r)) /\ an G L w') := by
 refine ad (args := [_, _]) func14 rfl ntmps14 rfl rfl ?_;refine z2 ?_;refine a9 rfl rfl rfl hw rfl fun w b2 hw => ?_;refine a9 rfl rfl rfl hw rfl fun w b3 hw => ?_;refine z4 ?_;refine lA aM hw ?_;refine lA aM hw ?_;refine al rfl zy rfl (AS hw (ha.of sF) (hb.of sF)) rfl fun w v7 hv => ?_;obtain ⟨rfl, hw⟩ := hv;refine z3 ?_;exact aK rfl rfl rfl ⟨rfl, hw.tail.tail⟩
end
section
variable {P : Program} {n : Nat} {ops : Array Oper} {dr : Bool} {done r : List Nat} {K : fm -> World -> Prop} {e : fm} {w : World} {i d : Nat} {t s T : TypeId} {p : String} {af : Array Edge} {g : Option (Nat × Bool)} {x y : Operand} {G : Gh} {L R : List aw}
theorem ND {b o cap m j : Nat} {v : Value} {xs xs' : List Value} (ho : ops[i]? = some ⟨none, .store s x y, t, p, af, g⟩) (hg : Gd ops e g) (hx : ev e x = some (.pointer (some ⟨b, o, none⟩))) (hy : ev e y = some v) (h1 : iG P s = true) (hv : v.oneCell' = true)
  (hw : an G L w) (hp : cG (row T 1 (sQ b m cap) m xs) L R) (hj : j < m) (Vp : o = j) (Mh : xs.set j v = xs') (i' : gU P ops dr done i = [])
  (h : ∀ w', an G (row T 1 (sQ b m cap) m xs' :: R) w' -> XL P n ops dr (i :: done) r K e w') : XL P n ops dr done (i :: r) K e w := by
 subst Vp Mh;obtain ⟨hl, b', cur, hb, W2, hc2, hc3, nL⟩ := hY (hw.pick hp) oM;cases hb;have hlx : xs.length = m := oM;refine bu (l' := xs.set o v ++ cur) ho hg hx hy h1 hv nL .here ?_ ?_ i' (fun w2 Vl => h w2 ?_)
 ·rw [Nat.blt_eq, de]; omega
 ·rw [List.set_append_left _ _ oM]
 exact oE Vl (by rw [EX]; exact hl) W2 hc2 (by rw [<-hc3, de, de, EX])
end
section
variable {G : Gh} {L R : List aw} {w : World}
theorem Km {fn : Fn} {v1 v2 : Array Value} (hw : an G L w) : Calls prog 99 #[.func fn v1 v2] w (bU fun r w' => ∃ b1, r = .func (.func 183) #[] #[pQ b1] /\ an G (ah b1 [.func fn v1 v2] 215 :: L) w') := by
 refine ad (args := [_]) func99 rfl ntmps99 rfl rfl ?_;refine z2 ?_;refine a9 rfl rfl rfl hw rfl fun w b1 hw => ?_;refine z4 ?_;refine gP (v1 := #[]) (v2 := #[pQ b1]) rfl (by intro z hz; simp at hz; subst hz; exact ⟨_, rfl⟩) sM (by simp only [jM, cH, gE]; rfl) ?_;refine z3 ?_;exact aK rfl rfl rfl ⟨b1, rfl, hw⟩
theorem mH {a : Option Addr} {n c : Nat} (hw : an G L w) : Calls prog 100 #[.slice a n c] w (bU fun r w' => ∃ b1, r = .func (.func 184) #[] #[pQ b1] /\ an G (ah b1 [.slice a n c] 58 :: L) w') := by
 refine ad (args := [_]) func100 rfl ntmps100 rfl rfl ?_;refine z2 ?_;refine a9 rfl rfl rfl hw rfl fun w b1 hw => ?_;refine z4 ?_;refine gP (v1 := #[]) (v2 := #[pQ b1]) rfl (by intro z hz; simp at hz; subst hz; exact ⟨_, rfl⟩) sM (by simp only [jM, cH, gE]; rfl) ?_;refine z3 ?_;exact aK rfl rfl rfl ⟨b1, rfl, hw⟩
end
def Eh (rs : List (Int × Int)) (n : Int) : Prop := ∃ x ∈ rs, x.1 <= n /\ n <= x.2
def mM : Int -> List (Int × Int) -> Prop
 | _, [] => True
 | b, x :: r => b <= x.1 /\ x.1 <= x.2 /\ mM (x.2 + 2) r
theorem mM.mono {b b' : Int} (h : b' <= b) : ∀ {rs : List (Int × Int)}, mM b rs -> mM b' rs
 | [], _ => trivial
 | x :: r, hr => ⟨by have := hr.1; omega, hr.2.1, hr.2.2⟩
theorem mM.ge : ∀ {b : Int} {rs : List (Int × Int)}, mM b rs -> ∀ {n : Int}, Eh rs n -> b <= n
 | _, [], _, _, ⟨_, hx, _⟩ => by cases hx
 | b, x :: r, h, n, ⟨y, hy, h1, h2⟩ => by
  rcases bQ.1 hy with rfl | hy
  ·have := h.1; omega
  have := mM.ge h.2.2 ⟨y, hy, h1, h2⟩;have := h.1; have := h.2.1; omega
theorem mM.mem : ∀ {b : Int} {rs : List (Int × Int)}, mM b rs -> ∀ {x : Int × Int}, x ∈ rs -> b <= x.1 /\ x.1 <= x.2
 | _, [], _, _, hx => by cases hx
 | b, y :: r, h, x, hx => by
  rcases bQ.1 hx with rfl | hx
  ·exact ⟨h.1, h.2.1⟩
  have := mM.mem h.2.2 hx;have := h.1; have := h.2.1; omega
theorem mM.len : ∀ {b m : Int} {rs : List (Int × Int)}, mM b rs -> (∀ n, Eh rs n -> n <= m) -> b <= m + 2 -> 2 * (rs.length : Int) <= m + 2 - b
 | b, m, [], _, _, hb => by simp; omega
 | b, m, x :: r, h, hm, hb => by
  have h1 : x.2 <= m := hm x.2 ⟨x, iD .., h.2.1, rQ _⟩;have := mM.len (m := m) h.2.2 (fun n ⟨y, hy, h1, h2⟩ => hm n ⟨y, jN _ hy, h1, h2⟩) oM;have := h.1; have := h.2.1;simp only [g5]; omega
theorem nK {x : Int × Int} {r : List (Int × Int)} {n : Int} : Eh (x :: r) n ↔ (x.1 <= n /\ n <= x.2) \/ Eh r n := by
 unfold Eh; simp only [bQ, exists_eq_or_imp]
theorem Au {n : Int} : ¬ Eh [] n := fun ⟨_, h, _⟩ => by cases h
def Fv (a b : Int) : List (Int × Int) -> List (Int × Int)
 | [] => [(a, b)]
 | x :: r => if x.2 < a /\ x.2 + 1 < a then x :: Fv a b r else if b < x.1 /\ b < x.1 - 1 then (a, b) :: x :: r else Fv (min a x.1) (max b x.2) r
theorem Nf : ∀ (rs : List (Int × Int)) (B A : List (Int × Int)) (a b c : Int), a <= b -> mM c rs -> b + 1 < c -> rs.foldl fA ⟨B, A, (a, b)⟩ = ⟨B, A ++ rs, (a, b)⟩
 | [], B, A, a, b, c, _, _, _ => by simp
 | x :: r, B, A, a, b, c, B6, h, hb => by
  have h1 := h.1; have h2 := h.2.1;rw [Rc];have e : fA ⟨B, A, (a, b)⟩ x = ⟨B, A ++ [x], (a, b)⟩ := by
   unfold fA; simp only;rw [aj oM, ao oM]
  rw [e, Nf r B (A ++ [x]) a b _ B6 h.2.2 oM];simp
theorem O6 : ∀ (rs : List (Int × Int)) (B : List (Int × Int)) (a b c : Int), a <= b -> mM c rs -> (rs.foldl fA ⟨B, [], (a, b)⟩).below ++ [(rs.foldl fA ⟨B, [], (a, b)⟩).r] ++ (rs.foldl fA ⟨B, [], (a, b)⟩).cV = B ++ Fv a b rs
 | [], B, a, b, c, _, _ => by simp [Fv]
 | x :: r, B, a, b, c, B6, h => by
  rw [Rc, Fv]
  by_cases h1 : x.2 < a /\ x.2 + 1 < a
  ·have e : fA ⟨B, [], (a, b)⟩ x = ⟨B ++ [x], [], (a, b)⟩ := by unfold fA; simp only; rw [ao h1]
   rw [e, ao h1, O6 r (B ++ [x]) a b _ B6 h.2.2]; simp
  rw [aj h1]
  by_cases h2 : b < x.1 /\ b < x.1 - 1
  ·have e : fA ⟨B, [], (a, b)⟩ x = ⟨B, [x], (a, b)⟩ := by unfold fA; simp only; rw [aj h1, ao h2]; rfl
   rw [e, ao h2, Nf r B [x] a b _ B6 h.2.2 (by have := h.2.1; omega)]; simp
  have e : fA ⟨B, [], (a, b)⟩ x = ⟨B, [], (min a x.1, max b x.2)⟩ := by unfold fA; simp only; rw [aj h1, aj h2]
  rw [e, aj h2, O6 r B _ _ _ oM h.2.2]
theorem G6 {rs : List (Int × Int)} {a b c : Int} (B6 : a <= b) (h : mM c rs) : x6 rs a b = Fv a b rs := by
 unfold x6 wQ; rw [O6 rs [] a b c B6 h]; simp
theorem Ef : ∀ (rs : List (Int × Int)) (a b c : Int), a <= b -> mM c rs -> c <= a -> mM c (Fv a b rs)
 | [], a, b, c, B6, _, hc => ⟨hc, B6, trivial⟩
 | x :: r, a, b, c, B6, h, hc => by
  have h1 := h.1; have h2 := h.2.1;rw [Fv];split
  ·exact ⟨h1, h2, Ef r a b _ B6 h.2.2 oM⟩
  split
  ·exact ⟨hc, B6, by simp only; omega, h2, h.2.2⟩
  exact Ef r _ _ _ oM (h.2.2.mono oM) oM
theorem Eg : ∀ (rs : List (Int × Int)) (a b c : Int), a <= b -> mM c rs -> ∀ n, Eh (Fv a b rs) n ↔ (a <= n /\ n <= b) \/ Eh rs n
 | [], a, b, c, B6, _, n => by rw [Fv, nK]
 | x :: r, a, b, c, B6, h, n => by
  have h1 := h.1; have h2 := h.2.1;rw [Fv];split
  ·rw [nK, nK, Eg r a b _ B6 h.2.2 n]
   constructor
   ·rintro (h | h | h)
    ·exact .inr (.inl h)
    ·exact .inl h
    exact .inr (.inr h)
   rintro (h | h | h)
   ·exact .inr (.inl h)
   ·exact .inl h
   exact .inr (.inr h)
  split
  ·rw [nK]
  rw [Eg r _ _ _ oM h.2.2 n, nK]
  constructor
  ·rintro (h | h)
   ·by_cases hx : x.1 <= n /\ n <= x.2
    ·exact .inr (.inl hx)
    exact .inl oM
   exact .inr (.inr h)
  rintro (h | h | h)
  ·exact .inl oM
  ·exact .inl oM
  exact .inr h
theorem PA : ∀ (rs : List (Int × Int)) (k c : Int), mM c rs -> mM c (vi rs k k)
 | [], _, _, _ => trivial
 | x :: r, k, c, h => by
  have h1 := h.1; have h2 := h.2.1;have ih := PA r k _ h.2.2;unfold vi at ih ⊢;rw [LG];unfold vj
  repeat' split
  all_goals simp only [ie, List.singleton_append, iC]
  ·exact ⟨h1, h2, ih⟩
  ·exact ⟨h1, by simp only; omega, by simp only; omega, by simp only; omega, ih⟩
  ·exact ⟨h1, by simp only; omega, ih.mono (by simp only; omega)⟩
  ·exact ⟨by simp only; omega, by simp only; omega, ih⟩
  exact ih.mono oM
theorem PB : ∀ (rs : List (Int × Int)) (k c : Int), mM c rs -> ∀ n, Eh (vi rs k k) n ↔ Eh rs n /\ n ≠ k
 | [], _, _, _, n => ⟨fun h => absurd h Au, fun h => absurd h.1 Au⟩
 | x :: r, k, c, h, n => by
  have h2 := h.2.1;have ih := PB r k _ h.2.2 n;unfold vi at ih ⊢;rw [LG, nK];have abC : ∀ (A B : List (Int × Int)), Eh (A ++ B) n ↔ Eh A n \/ Eh B n := fun A B => by
   unfold Eh
   constructor
   ·rintro ⟨y, hy, h⟩;rcases gF.1 hy with hy | hy
    ·exact .inl ⟨y, hy, h⟩
    exact .inr ⟨y, hy, h⟩
   rintro (⟨y, hy, h⟩ | ⟨y, hy, h⟩)
   ·exact ⟨y, xt _ hy, h⟩
   exact ⟨y, N5 _ hy, h⟩
  rw [abC, ih];have h1 : Eh (vj k k x) n ↔ (x.1 <= n /\ n <= x.2) /\ n ≠ k := by
   unfold vj
   repeat' split
   all_goals simp only [abC, nK, ie, List.singleton_append, iC]
   all_goals (try simp only [Au, or_false])
   all_goals (first | omega | exact ⟨fun h => h.elim, fun h => by omega⟩)
  rw [h1]
  constructor
  ·rintro (h | h)
   ·exact ⟨.inl h.1, h.2⟩
   exact ⟨.inr h.1, h.2⟩
  rintro ⟨h | h, h'⟩
  ·exact .inl ⟨h, h'⟩
  exact .inr ⟨h, h'⟩
theorem Uf {x : Int × Int} {r : List (Int × Int)} {c : Int} (h : mM c (x :: r)) : Eh (x :: r) x.1 /\ ∀ n, Eh (x :: r) n -> x.1 <= n :=
 ⟨⟨x, iD .., rQ _, h.2.1⟩, fun n hn => by
  rcases nK.1 hn with h' | h'
  ·exact h'.1
  ·have := mM.ge h.2.2 h';have := h.2.1; omega⟩
def Tj (x : Int) (b : Bool) : Int := if 0 < x then (if b = true then 4 else 3) else if b = true then 2 else 1
theorem IG (x : Int) (b : Bool) : 1 <= Tj x b /\ Tj x b <= 4 := by unfold Tj; cases b <;> by_cases h : 0 < x <;> simp [h]
def zt (k : Int) : List Int -> List Bool -> Int
 | x :: c, b :: l => (if Tj x b = k then 1 else 0) + zt k c l
 | _, _ => 0
theorem Gq (k : Int) : ∀ (c : List Int) (l : List Bool), 0 <= zt k c l /\ zt k c l <= c.length
 | [], _ => by simp [zt]
 | x :: c, [] => by simp [zt]; omega
 | x :: c, b :: l => by
  have := Gq k c l;simp only [zt, g5];split <;> omega
theorem MT (k y : Int) : ∀ (c : List Int) (l : List Bool) (i : Nat), i < c.length -> l.length = c.length -> zt k (c.set i y) l = zt k c l - (if Tj (c.getD i 0) (l.getD i false) = k then 1 else 0) + (if Tj y (l.getD i false) = k then 1 else 0)
 | [], _, i, hi, _ => by simp at hi
 | x :: c, [], i, _, hl => by simp at hl
 | x :: c, b :: l, 0, _, _ => by simp only [List.set_cons_zero, zt, V8]; omega
 | x :: c, b :: l, i + 1, hi, hl => by
  simp only [V5, zt, List.getD_cons_succ];rw [MT k y c l i (by simpa using hi) (by simpa using hl)]; omega
theorem MS (k : Int) : ∀ c : List Int, zt k c (c.map fun x => decide (0 < x)) = jq c k
 | [] => by simp [zt, jq]
 | x :: c => by
  have ih := MS k c;have e : Tj x (decide (0 < x)) = No x := by unfold Tj No; by_cases h : 0 < x <;> simp [h]
  simp only [cH, zt, ih, e, jq, N1]
  by_cases h : No x = k <;> simp [h] <;> omega
theorem zZ {c : List Int} {l : List Bool} {n : Int} (h : bG c n) : ye c l n = Tj (c.getD (n - 1).toNat 0) (l.getD (n - 1).toNat false) := by unfold ye Tj; rw [ao h]
structure Po where
 refs : Int
 c : List Int
 l : List Bool
 pa : List (Int × Int)
 pf : Int
def dL (c : List Int) (n b : Int) : List Int := c.set (n - 1).toNat (c.getD (n - 1).toNat 0 + b)
def lJ (c : List Int) (pa : List (Int × Int)) : List Int := pa.foldr (fun a c => dL c a.1 (-a.2)) c
def Po.act (P : Po) (n b : Int) : Po := { P with c := dL P.c n b, pa := P.pa ++ [(n, b)] }
def Po.st (P : Po) (n : Int) : Int := ye P.c P.l n
def Po.fL (P : Po) (n : Int) : Int := fS P.c n
def Ww (c : List Int) (l : List Bool) : Option Int := ((List.range c.length).find? fun (i : Nat) => ye c l ((i : Int) + 1) == 1).map fun (i : Nat) => (i : Int) + 1
def Po.low (P : Po) : Option Int := Ww P.c P.l
def Po.JO (P : Po) (k : Nat) : Po := { P with c := lJ P.c (P.pa.drop k), pa := P.pa.take k }
structure Po.Ok (P : Po) : Prop where
 len : P.c.length <= 65536
 last : P.l.length = P.c.length
 refs : 2 <= P.refs /\ P.refs < 65536
 aaw : ∀ a ∈ P.pa, bG P.c a.1 /\ (a.2 = 1 \/ a.2 = -1)
 OD : ∀ k, k <= P.pa.length -> ∀ x ∈ lJ P.c (P.pa.drop k), 0 <= x /\ x <= P.refs
theorem iz (c : List Int) (n b : Int) : (dL c n b).length = c.length := by simp [dL]
theorem lW : ∀ (pa : List (Int × Int)) (c : List Int), (lJ c pa).length = c.length
 | [], _ => rfl
 | a :: pa, c => by
  have := lW pa c;unfold lJ at this ⊢;rw [List.foldr_cons, iz]; exact this
theorem fY {c : List Int} {n b m : Int} : bG (dL c n b) m ↔ bG c m := by unfold bG; rw [iz]
theorem pF {c : List Int} {n b : Int} {i : Nat} (h : bG c n) : (dL c n b).getD i 0 = if i = (n - 1).toNat then c.getD i 0 + b else c.getD i 0 := by
 unfold dL;simp only [lP, Tq]
 by_cases e : i = (n - 1).toNat
 ·subst e;have iy : (n - 1).toNat < c.length := by unfold bG at h; omega
  rw [ao rfl, ao rfl, ao iy]; rfl
 rw [aj e, aj (fun h => e h.symm)]
theorem EF {c : List Int} {n b : Int} (h : bG c n) : dL (dL c n b) n (-b) = c := by
 refine Re (by rw [iz, iz]) fun i h1 h2 => ?_
 have e : ∀ (d : List Int) (hd : i < d.length), d[i] = d.getD i 0 := fun d hd => by simp [hd]
 rw [e _ h1, e _ h2, pF (fY.2 h), pF h];split <;> omega
theorem EE (c : List Int) (pa : List (Int × Int)) (a : Int × Int) : lJ c (pa ++ [a]) = lJ (dL c a.1 (-a.2)) pa := by unfold lJ; rw [List.foldr_append]; rfl
theorem Po.Ok.now {P : Po} (h : P.Ok) : ∀ x ∈ P.c, 0 <= x /\ x <= P.refs := by
 have := h.OD P.pa.length (g8 _);rw [LD] at this;exact this
theorem Po.Ok.fL {P : Po} (h : P.Ok) (n : Int) : 0 <= P.fL n /\ P.fL n <= P.refs := by
 have hr := h.refs;unfold Po.fL fS;split
 ·rename_i hn;have iy : (n - 1).toNat < P.c.length := by unfold bG at hn; omega
  have : P.c.getD (n - 1).toNat 0 ∈ P.c := by
   rw [lP, dm iy]; exact JW iy
  exact h.now _ this
 omega
theorem Po.Ok.act {P : Po} (h : P.Ok) {n b : Int} (hn : bG P.c n) (hb : b = 1 \/ b = -1) (hc : 0 <= P.fL n + b /\ P.fL n + b <= P.refs) : (P.act n b).Ok := by
 refine ⟨by simp only [Po.act, iz]; exact h.len, by simp only [Po.act, iz]; exact h.last, h.refs, fun a ha => ?_, fun k hk x hx => ?_⟩
 ·simp only [Po.act] at ha ⊢;rcases gF.1 ha with ha | ha
  ·exact ⟨fY.2 (h.aaw a ha).1, (h.aaw a ha).2⟩
  simp at ha; subst ha; exact ⟨fY.2 hn, hb⟩
 simp only [Po.act, de, mG] at hk hx ⊢
 by_cases pA : k = P.pa.length + 1
 ·subst pA;rw [vm sM] at hx;simp only [lJ, List.foldr_nil] at hx
  unfold dL at hx;rcases List.mem_or_eq_of_mem_set hx with hx | hx
  ·exact h.now x hx
  rw [hx];have : P.fL n = P.c.getD (n - 1).toNat 0 := by unfold Po.fL fS; rw [ao hn]
  omega
 rw [List.drop_append_of_le_length oM, EE] at hx;simp only at hx
 rw [EF hn] at hx;exact h.OD k oM x hx
theorem An {c : List Int} {l : List Bool} : (∃ n, Ww c l = some n /\ bG c n /\ ye c l n = 1 /\ ∀ m, ye c l m = 1 -> n <= m) \/ (Ww c l = none /\ ∀ m, ye c l m ≠ 1) := by
 unfold Ww;cases h : (List.range c.length).find? fun (i : Nat) => ye c l ((i : Int) + 1) == 1 with
 | none =>
  refine .inr ⟨rfl, fun m hm => ?_⟩;have Jd : bG c m := by
   unfold ye at hm; split at hm
   ·assumption
   cases hm
  have := Ts.1 h (m - 1).toNat (rj.2 (by unfold bG at Jd; omega));rw [show (((m - 1).toNat : Nat) : Int) + 1 = m by unfold bG at Jd; omega] at this;simp [hm] at this
 | some i =>
  have h1 := List.find?_some h;simp only [beq_iff_eq] at h1;have h2 := rj.1 (Tx h);refine .inl ⟨(i : Int) + 1, rfl, by unfold bG; omega, h1, fun m hm => ?_⟩;have Jd : bG c m := by
   unfold ye at hm; split at hm
   ·assumption
   cases hm
  unfold bG at Jd;refine qA fun iy => ?_
  obtain ⟨h3, la, lb, h4, h5⟩ := List.find?_eq_some_iff_append.1 h;have Ux : (m - 1).toNat ∈ la := by
   have C6 : (m - 1).toNat ∈ List.range c.length := rj.2 oM;rw [h4] at C6;rcases gF.1 C6 with h | h
   ·exact h
   exfalso;have hs : (la ++ i :: lb).Pairwise (· < ·) := by rw [<-h4]; exact List.pairwise_lt_range
   have Ei := (List.pairwise_append.1 hs).2.1;rcases bQ.1 h with h | h
   ·omega
   have := (List.pairwise_cons.1 Ei).1 _ h; omega
  have := h5 _ Ux;rw [show (((m - 1).toNat : Nat) : Int) + 1 = m by omega] at this;simp [hm] at this
theorem zY {c : List Int} {l : List Bool} {n b : Int} (h : bG c n) {m : Int} (hm : m ≠ n) : ye (dL c n b) l m = ye c l m := by
 unfold ye
 by_cases h1 : bG c m
 ·have qF : ¬ (m - 1).toNat = (n - 1).toNat := by unfold bG at h h1; omega
  have e := pF (b := b) (i := (m - 1).toNat) h;rw [aj qF] at e;rw [ao h1, ao (fY.2 h1), e]
 rw [aj h1, aj (fun h => h1 (fY.1 h))]
def xo {α : Type} (f : Int -> Option α) (n : Int) (x : Option α) : Int -> Option α := fun m => if m = n then x else f m
theorem Ta {α : Type} (f : Int -> Option α) (n : Int) : xo f n (f n) = f := by funext m; unfold xo; split <;> simp_all
theorem VZ {α : Type} (f : Int -> Option α) (n : Int) (x y : Option α) : xo (xo f n x) n y = xo f n y := by funext m; unfold xo; split <;> simp_all
def yP {α : Type} (f : Int -> Option α) (was : List (Int × Option α)) : Int -> Option α := was.foldr (fun a f => xo f a.1 a.2) f
theorem Lh {α : Type} (f : Int -> Option α) (was : List (Int × Option α)) (a : Int × Option α) : yP f (was ++ [a]) = yP (xo f a.1 a.2) was := by unfold yP; rw [List.foldr_append]; rfl
structure Va where
 po : Po
 on : Int -> Option Pg
 va : List (Int × List (Int × Option Pg))
 vf : Int
def Va.fL (V : Va) (n : Int) : Int := V.po.fL n
def Va.st (V : Va) (n : Int) : Int := V.po.st n
def Va.pg (V : Va) (n : Int) : Pg := (V.on n).getD eh.pg
structure Vw where
 v : Va
 was : List (Int × Option Pg)
def Vw.note (x : Vw) (n : Int) : Vw := { x with was := x.was ++ [(n, x.v.on n)] }
def Vw.put (x : Vw) (n : Int) (p : Option Pg) : Vw := ⟨{ x.v with on := xo x.v.on n p }, x.was ++ [(n, x.v.on n)]⟩
def Vw.act (x : Vw) (n b : Int) : Vw := { x with v := { x.v with po := x.v.po.act n b } }
def Vw.free (x : Vw) (n : Int) : Vw := if x.v.st n = 1 then x.put n none else x
structure kg (V0 : Va) (x : Vw) : Prop where
 va : x.v.va = V0.va
 vf : x.v.vf = V0.vf
 on : yP x.v.on x.was = V0.on
 pf : x.v.po.pf = V0.po.pf
 l : x.v.po.l = V0.po.l
 refs : x.v.po.refs = V0.po.refs
 pa : ∃ more, x.v.po.pa = V0.po.pa ++ more /\ lJ x.v.po.c more = V0.po.c
theorem kg.refl (V : Va) : kg V ⟨V, []⟩ := ⟨rfl, rfl, rfl, rfl, rfl, rfl, [], by simp, rfl⟩
theorem kg.put {V : Va} {x : Vw} (h : kg V x) (n : Int) (p : Option Pg) : kg V (x.put n p) :=
 ⟨h.va, h.vf, by
  show yP (xo x.v.on n p) (x.was ++ [(n, x.v.on n)]) = V.on
  rw [Lh, VZ, Ta]; exact h.on, h.pf, h.l, h.refs, h.pa⟩
theorem kg.act {V : Va} {x : Vw} (h : kg V x) {n b : Int} (hn : bG x.v.po.c n) : kg V (x.act n b) := by
 obtain ⟨more, h1, h2⟩ := h.pa;refine ⟨h.va, h.vf, h.on, h.pf, h.l, h.refs, more ++ [(n, b)], ?_, ?_⟩
 ·show x.v.po.pa ++ [(n, b)] = _
  rw [h1, pZ]
 show lJ (dL x.v.po.c n b) (more ++ [(n, b)]) = _
 rw [EE, EF hn, h2]
def Va.back (V : Va) (mark : Int) (was : List (Int × Option Pg)) : Va := { V with po := V.po.JO (mark - V.po.pf).toNat, on := yP V.on was }
def Po.mark (P : Po) : Int := P.pf + P.pa.length
theorem kg.back {V : Va} {x : Vw} (h : kg V x) : x.v.back V.po.mark x.was = V := by
 obtain ⟨more, h1, h2⟩ := h.pa;have hm : (V.po.mark - x.v.po.pf).toNat = V.po.pa.length := by unfold Po.mark; rw [h.pf]; omega
 unfold Va.back Po.JO;rw [hm];have e1 : x.v.po.pa.drop V.po.pa.length = more := by rw [h1]; simp
 have e2 : x.v.po.pa.take V.po.pa.length = V.po.pa := by rw [h1]; simp
 rw [e1, e2, h2, h.on];have e3 := h.pf; have e4 := h.l; have e5 := h.refs; have e6 := h.va; have e7 := h.vf;rcases x with ⟨⟨⟨r, c, l, pa, pf⟩, on, va, vf⟩, was⟩;rcases V with ⟨⟨r', c', l', pa', pf'⟩, CW, va', vf'⟩;simp only at e3 e4 e5 e6 e7 ⊢;subst e3 e4 e5 e6 e7;rfl
theorem ON : ∀ (n : Nat) (c : List Int), c.length = n -> mM 1 (fK c) /\ ∀ k, Eh (fK c) k ↔ bG c k /\ c.getD (k - 1).toNat 0 = 0 := by
 intro n
 induction n with
 | zero =>
  intro c hc;have : c = [] := Ae hc;subst this;exact ⟨trivial, fun k => ⟨fun h => absurd h Au, fun h => by unfold bG at h; simp at h; omega⟩⟩
 | succ n ih =>
  intro c hc;rcases c.eq_nil_or_concat with rfl | ⟨c', x, rfl⟩
  ·simp at hc
  simp only [List.concat_eq_append] at hc ⊢;have hl : c'.length = n := by simpa using hc
  obtain ⟨h1, h2⟩ := ih c' hl;have hg : ∀ k, bG (c' ++ [x]) k /\ (c' ++ [x]).getD (k - 1).toNat 0 = 0 ↔ (bG c' k /\ c'.getD (k - 1).toNat 0 = 0) \/ (k = n + 1 /\ x = 0) := fun k => by
   unfold bG;rw [de, mG, hl]
   by_cases hk : (k - 1).toNat < n
   ·have e : (c' ++ [x]).getD (k - 1).toNat 0 = c'.getD (k - 1).toNat 0 := by simp only [lP]; rw [Wc oM]
    rw [e]
    constructor
    ·rintro ⟨h3, h4⟩; exact .inl ⟨oM, h4⟩
    rintro (⟨h3, h4⟩ | ⟨h3, h4⟩)
    ·exact ⟨oM, h4⟩
    omega
   by_cases C7 : (k - 1).toNat = n
   ·have e : (c' ++ [x]).getD (k - 1).toNat 0 = x := by rw [C7, <-hl]; simp
    rw [e]
    constructor
    ·rintro ⟨h3, h4⟩; exact .inr ⟨oM, h4⟩
    rintro (⟨h3, h4⟩ | ⟨h3, h4⟩)
    ·omega
    exact ⟨oM, h4⟩
   constructor
   ·rintro ⟨h3, h4⟩; omega
   rintro (⟨h3, h4⟩ | ⟨h3, h4⟩) <;> omega
  rw [y8];split
  ·rename_i hx;rw [hl, G6 (rQ _) h1];refine ⟨Ef _ _ _ _ (rQ _) h1 oM, fun k => ?_⟩;rw [Eg _ _ _ _ (rQ _) h1, h2, hg]
   constructor
   ·rintro (h | h)
    ·exact .inr ⟨oM, hx⟩
    exact .inl h
   rintro (h | h)
   ·exact .inr h
   exact .inl oM
  rename_i hx;refine ⟨h1, fun k => ?_⟩;rw [h2, hg]
  constructor
  ·exact .inl
  rintro (h | h)
  ·exact h
  exact absurd h.2 hx
theorem jL {P : Program} {f : FuncId} {a : Array Value} {w : World} {Q Q' : Value -> World -> Prop} (h : Calls P f a w (bU Q)) (hq : ∀ v w', Q v w' -> Q' v w') : Calls P f a w (bU Q') :=
 h.mono fun e w' ⟨v, he, hR⟩ => ⟨v, he, hq v w' hR⟩
abbrev Iq := (Nat × Nat × Nat) × (Int × Int)
def vt (a : Iq) : Value := .func (.func 271) #[] #[.pointer (some ⟨a.1.1, 0, none⟩), .pointer (some ⟨a.1.2.1, 0, none⟩), .pointer (some ⟨a.1.2.2, 0, none⟩)]
def kB (q : Nat) (a : Iq) : List aw := [ah a.1.1 [pQ q] 34, ah a.1.2.1 [iQ a.2.1] 3, ah a.1.2.2 [iQ a.2.2] 3]
structure U9 where
 cv : Value
 lv : Value
 fq : Nat
 fv : Value
 av : Value
 rs : List (Int × Int)
 eW : List Iq
def Nn (c : List Int) (l : List Bool) (k : Int) : Int := if k = 0 then 0 else zt k c l
abbrev Np (P : Po) (m : U9) (T : Int -> Int) : Hr := ⟨P.refs, P.c, m.cv, P.l, m.lv, some ⟨m.fq, 0, none⟩, T 0, T 1, T 2, T 3, T 4, m.av, P.pa.length, P.pf⟩
abbrev J2 (q : Nat) (eW : List Iq) : aw := aV (eW.flatMap (kB q))
abbrev Zm (q : Nat) (n : Nat) (m : U9) (L : List aw) : List aw := EJ m.fq m.fv m.rs (row 374 1 m.av n (m.eW.map vt) :: J2 q m.eW :: L)
abbrev TE (q : Nat) (P : Po) (m : U9) (L : List aw) : List aw := vn q (Np P m (Nn P.c P.l)) (Zm q P.pa.length m L)
structure U' (P : Po) (m : U9) : Prop where
 eW : m.eW.map (·.2) = P.pa
 rs : mM 1 m.rs
 fr : ∀ n, Eh m.rs n ↔ ye P.c P.l n = 1
def iE (q : Nat) (P : Po) : aw := ex fun m : U9 => lZ (U' P m) (aV (TE q P m []))
theorem kW {q : Nat} {P : Po} {G : Gh} {L : List aw} {w : World} (h : an G (iE q P :: L) w) : ∃ m, U' P m /\ an G (TE q P m L) w := by
 obtain ⟨m, h⟩ := h.fD;obtain ⟨hf, h⟩ := h.eE;exact ⟨m, hf, h.cF⟩
theorem gx {q : Nat} {P : Po} {m : U9} {G : Gh} {L : List aw} {w : World} (hf : U' P m) (h : an G (TE q P m L) w) : an G (iE q P :: L) w :=
 an.gh m (an.fJ hf (an.bz (M := TE q P m []) h))
theorem U'.rsn {P : Po} {m : U9} (h : U' P m) (hl : P.c.length <= 65536) : m.rs.length <= 65536 /\ ∀ x ∈ m.rs, k9 x := by
 have xA : ∀ n, Eh m.rs n -> n <= 65536 := fun n hn => by
  have := (h.fr n).1 hn;unfold ye at this;split at this
  ·rename_i hh; unfold bG at hh; omega
  cases this
 refine ⟨by have := mM.len h.rs xA oM; omega, fun x hx => ?_⟩;have h1 := mM.mem h.rs hx;have h2 := xA x.2 ⟨x, hx, h1.2, rQ _⟩;unfold k9; omega
theorem Td {c : List Int} {l : List Bool} {n b : Int} (hn : bG c n) (nM : l.length = c.length) {k : Int} (hk : 1 <= k /\ k <= 4) :
  Nn (dL c n b) l k = (if k = ye c l n then Nn c l k - 1 else Nn c l k) + (if k = ye (dL c n b) l n then 1 else 0) := by
 have hi : (n - 1).toNat < c.length := by unfold bG at hn; omega
 have h0 : ¬ k = 0 := oM;unfold Nn;rw [aj h0, aj h0, zZ hn, zZ (fY.2 hn), pF hn, ao rfl];unfold dL;rw [MT k _ c l _ hi nM];simp only [eq_comm (a := k)];split <;> split <;> omega
theorem Q2 {c : List Int} {l : List Bool} (hl : c.length <= 65536) (k : Int) : 0 <= Nn c l k /\ Nn c l k <= 65536 := by
 unfold Nn;split
 ·omega
 have := Gq k c l; omega
section
variable {G : Gh} {L R : List aw} {w : World}
theorem qW {q : Nat} {P : Po} {m : U9} {n b : Int} (hw : an G (TE q P m L) w) (hf : U' P m) (hl : P.c.length <= 65536) (nM : P.l.length = P.c.length) (hn : bG P.c n) (hb : b = 1 \/ b = -1) (hc : -1000000 <= P.c.getD (n - 1).toNat 0 /\ P.c.getD (n - 1).toNat 0 <= 1000000) :
  Calls prog 270 #[pQ q, iQ n, iQ b] w (bU fun r w' => r = .tuple #[] /\ ∃ m', U' { P with c := dL P.c n b } m' /\ m'.eW = m.eW /\ m'.av = m.av /\ an G (TE q { P with c := dL P.c n b } m' L) w') := by
 have HB := hf.rsn hl;have Ov := fun k => Q2 (l := P.l) hl k
 have ZM := fun k => Td (b := b) (k := k) hn nM
 obtain ⟨eW, rs, fr⟩ := hf;rcases m with ⟨cv, lv, fq, fv, av, rr, Hq⟩;rcases P with ⟨refs, c, l, pa, pf⟩;simp only at *;have hn1 := hn.1;have Yv := hn.2;obtain ⟨ca, cc, rfl⟩ := aP (hw.pick (A := row 3 1 cv c.length (bg c)) (.there .here));obtain ⟨-, cb, _, rfl, -⟩ := hY (hw.pick (A := row 3 1 (.slice ca c.length cc) c.length (bg c)) (.there .here)) oM;obtain ⟨sb, Vo⟩ : ∃ sb, sb = ye c l n := ⟨_, rfl⟩;obtain ⟨sn, Vn⟩ : ∃ sn, sn = ye (dL c n b) l n := ⟨_, rfl⟩;have ZZ : sb = 1 \/ sb = 2 \/ sb = 3 \/ sb = 4 := by rw [Vo, zZ hn]; have := IG (c.getD (n - 1).toNat 0) (l.getD (n - 1).toNat false); omega
 have ZS : sn = 1 \/ sn = 2 \/ sn = 3 \/ sn = 4 := by rw [Vn, zZ (fY.2 hn)]; have := IG ((dL c n b).getD (n - 1).toNat 0) (l.getD (n - 1).toNat false); omega
 rw [<-Vo, <-Vn] at ZM;have WX := iz c n b;obtain ⟨T, hT⟩ : ∃ T, T = Nn c l := ⟨_, rfl⟩;rw [<-hT] at Ov ZM
 replace hw : an G (vn q (Np ⟨refs, c, l, pa, pf⟩ ⟨sQ cb c.length cc, lv, fq, fv, av, rr, Hq⟩ T) (Zm q pa.length ⟨sQ cb c.length cc, lv, fq, fv, av, rr, Hq⟩ L)) w := by rw [hT]; exact hw
 refine ad (args := [_, _, _]) func270 rfl ntmps270 rfl rfl ?_;refine z4 ?_;refine al rfl fT rfl (iJ (q := q) (p := Np ⟨refs, c, l, pa, pf⟩ ⟨sQ cb c.length cc, lv, fq, fv, av, rr, Hq⟩ T) hw hl nM) rfl fun w v10 hv => ?_;obtain ⟨Vm, hw⟩ := hv;have Vm : v10 = iQ sb := by rw [Vo]; exact Vm
 subst Vm;replace hw : an G (ah q (Np ⟨refs, c, l, pa, pf⟩ ⟨sQ cb c.length cc, lv, fq, fv, av, rr, Hq⟩ T).cells 115 :: row 3 1 (sQ cb c.length cc) c.length (bg c) :: row 4 1 lv l.length (zN l) :: Zm q pa.length ⟨sQ cb c.length cc, lv, fq, fv, av, rr, Hq⟩ L) w := hw;refine z7 ?_;refine lD dU hw ?_;refine z2 ?_;refine cR rfl bp cm rfl rfl ⟨oM, oM⟩ ?_;refine bt rfl rfl (ar.one ag ((uk (c := c).at hw.tail).at (Ar oM))) ?_;refine z2 ?_;refine cR rfl bp cm rfl rfl ⟨oM, oM⟩ ?_;refine ND (xs' := bg (dL c n b)) (m := c.length) (j := (n - 1).toNat) rfl tV rfl rfl ag rfl hw pK oM (pY _) (by simp [bg, dL, LA]) rfl fun w hw => ?_;have hz := hw.b [ah q _ _, row 3 1 _ _ _, row 4 _ _ _ _];clear hw;have hw : an G (vn q (Np ⟨refs, dL c n b, l, pa, pf⟩ ⟨sQ cb c.length cc, lv, fq, fv, av, rr, Hq⟩ T) (Zm q pa.length ⟨sQ cb c.length cc, lv, fq, fv, av, rr, Hq⟩ L)) w := by
  show an G (ah q _ _ :: row 3 1 _ (dL c n b).length _ :: _) w
  rw [WX]; exact hz
 refine z5 ?_;refine al rfl fT rfl (iJ (q := q) (p := Np ⟨refs, dL c n b, l, pa, pf⟩ ⟨sQ cb c.length cc, lv, fq, fv, av, rr, Hq⟩ T) hw (by show (dL c n b).length <= _; omega) (by show l.length = (dL c n b).length; omega)) rfl (fun w Sv hv => ?_);obtain ⟨Vm, hw⟩ := hv;have Vm : Sv = iQ sn := by rw [Vn]; exact Vm
 subst Vm;replace hw : an G (ah q (Np ⟨refs, dL c n b, l, pa, pf⟩ ⟨sQ cb c.length cc, lv, fq, fv, av, rr, Hq⟩ T).cells 115 :: row 3 1 (sQ cb c.length cc) (dL c n b).length (bg (dL c n b)) :: row 4 1 lv l.length (zN l) :: Zm q pa.length ⟨sQ cb c.length cc, lv, fq, fv, av, rr, Hq⟩ L) w := hw;obtain ⟨T1, hT1⟩ : ∃ T1 : Int -> Int, T1 = fun k => if k = sb then T k - 1 else T k := ⟨_, rfl⟩
 have r9 : ∀ k, -1 <= T1 k /\ T1 k <= 65536 := fun k => by have := Ov k; rw [hT1]; simp only; split <;> omega
 obtain ⟨T2, hT2⟩ : ∃ T2 : Int -> Int, T2 = fun k => if k = sn then T1 k + 1 else T1 k := ⟨_, rfl⟩
 have adW : (4 + sb.toNat) < 11 := oM;have hts := Ov sb;have ht1 := r9 sn;refine z3 ?_;refine bd [0, 1, 2, 3, 4, 5, 6, 7, 8, 9, 10] bJ kR ?_;replace hw := hw.drawn (w.drawn + 1);refine z4 ?_;refine sP rfl qt cm rfl rfl ⟨oM, oM⟩ ?_;refine bt rfl rfl (ar.bL (v := iQ (T sb)) ag hw pK (by rcases ZZ with rfl | rfl | rfl | rfl <;> rfl)) ?_;refine z3 ?_;refine sP rfl qt cm rfl rfl ⟨oM, oM⟩ ?_;refine bu (l' := (Np ⟨refs, dL c n b, l, pa, pf⟩ ⟨sQ cb c.length cc, lv, fq, fv, av, rr, Hq⟩ T1).cells) rfl tV rfl rfl ag rfl hw pK (by rcases ZZ with h | h | h | h <;> (rw [h]; rfl)) (by rw [hT1]; rcases ZZ with h | h | h | h <;> (rw [h]; rfl)) kR (fun w hw => ?_);refine z2 ?_;refine bd [0, 1, 2, 3, 4, 5, 6, 7, 8, 9, 10] bJ kR ?_;replace hw := hw.drawn (w.drawn + 1);refine z4 ?_;refine sP rfl qt cm rfl rfl ⟨oM, oM⟩ ?_;refine bt rfl rfl (ar.bL (v := iQ (T1 sn)) ag hw pK (by rcases ZS with h | h | h | h <;> (rw [h]; rfl))) ?_;refine z3 ?_;refine sP rfl qt cm rfl rfl ⟨oM, oM⟩ ?_;refine bu (l' := (Np ⟨refs, dL c n b, l, pa, pf⟩ ⟨sQ cb c.length cc, lv, fq, fv, av, rr, Hq⟩ T2).cells) rfl tV rfl rfl ag rfl hw pK (by rcases ZS with h | h | h | h <;> (rw [h]; rfl)) (by rw [hT2]; rcases ZS with h | h | h | h <;> (rw [h]; rfl)) kR (fun w hw => ?_);have hTT : Np ⟨refs, dL c n b, l, pa, pf⟩ ⟨sQ cb c.length cc, lv, fq, fv, av, rr, Hq⟩ T2 = Np ⟨refs, dL c n b, l, pa, pf⟩ ⟨sQ cb c.length cc, lv, fq, fv, av, rr, Hq⟩ (Nn (dL c n b) l) := by
  have hk : ∀ k, 1 <= k /\ k <= 4 -> T2 k = Nn (dL c n b) l k := fun k hk => by
   rw [ZM k hk, hT2, hT1]; simp only;split <;> split <;> omega
  have h0 : T2 0 = Nn (dL c n b) l 0 := by
   rw [hT2, hT1, hT]; simp only;rw [aj oM, aj oM];rfl
  unfold Np;rw [hk 1 oM, hk 2 oM, hk 3 oM, hk 4 oM, h0]
 rw [hTT] at hw;clear hTT;refine z8 ?_;refine aE rfl (fun h1 => ?_) fun h1 => ?_
 ·
  refine rL ?_;have hz := hw.b [ah q _ _, row 3 1 _ _ _, row 4 _ _ _ _, ah fq _ _];exact kC rfl rfl ⟨rfl, ⟨sQ cb c.length cc, lv, fq, fv, av, rr, Hq⟩, ⟨eW, rs, fun k => (by
   show Eh rr k ↔ ye (dL c n b) l k = 1
   by_cases hk : k = n
   ·subst hk; rw [<-Vn, fr, <-Vo, h1]
   ·rw [zY hn hk]; exact fr k)⟩, rfl, rfl, hz⟩
 refine z7 ?_;refine aE rfl (fun h2 => ?_) fun h2 => ?_
 ·
  refine z4 ?_;refine lD eA hw ?_;refine z2 ?_;refine al rfl sC rfl (tr (lo := n) (hi := n) (hw.b [ah fq _ _, row 379 _ _ _ _]) (rQ _) (by unfold k9; simp only; omega) (show rr.length <= 100000 by omega)) rfl (fun w v56 hv => ?_);obtain ⟨-, fv', hw⟩ := hv;refine z6 ?_;refine aE rfl (fun h3 => ?_) fun h3 => ?_
  ·
   exact absurd (h2.trans h3.symm) h1
  refine dS ?_;have hz := hw.b [ah q _ _, row 3 1 _ _ _, row 4 _ _ _ _, ah fq _ _];exact kC rfl rfl ⟨rfl, ⟨sQ cb c.length cc, lv, fq, fv', av, vi rr n n, Hq⟩, ⟨eW, PA _ _ _ rs, fun k => (by
     show Eh (vi rr n n) k ↔ ye (dL c n b) l k = 1
     rw [PB _ _ _ rs, fr]
     by_cases hk : k = n
     ·subst hk; rw [<-Vn];exact ⟨fun h => absurd rfl h.2, fun h => absurd h h3⟩
     ·rw [zY hn hk]; exact ⟨fun h => h.1, fun h => ⟨h, hk⟩⟩)⟩, rfl, rfl, hz⟩
 refine z6 ?_;refine aE rfl (fun h4 => ?_) fun h4 => ?_
 ·
  refine z4 ?_;refine lD eA hw ?_;refine z2 ?_;refine al rfl oe rfl (o0 (lo := n) (hi := n) (hw.b [ah fq _ _, row 379 _ _ _ _]) (rQ _) (by unfold k9; simp only; omega) HB.2 (show rr.length <= 100000 by omega)) rfl (fun w X7 hv => ?_);obtain ⟨-, fv', hw⟩ := hv;refine aC ?_;have hz := hw.b [ah q _ _, row 3 1 _ _ _, row 4 _ _ _ _, ah fq _ _];exact kC rfl rfl ⟨rfl, ⟨sQ cb c.length cc, lv, fq, fv', av, x6 rr n n, Hq⟩, ⟨eW, (by rw [G6 (rQ _) rs]; exact Ef _ _ _ _ (rQ _) rs hn1), fun k => (by
     show Eh (x6 rr n n) k ↔ ye (dL c n b) l k = 1
     rw [G6 (rQ _) rs, Eg _ _ _ _ (rQ _) rs, fr]
     by_cases hk : k = n
     ·subst hk; rw [<-Vn];exact ⟨fun _ => h4, fun _ => .inl ⟨rQ _, rQ _⟩⟩
     ·rw [zY hn hk]; exact ⟨fun h => h.resolve_left oM, .inr⟩)⟩, rfl, rfl, hz⟩
 refine dS ?_;have hz := hw.b [ah q _ _, row 3 1 _ _ _, row 4 _ _ _ _, ah fq _ _];exact kC rfl rfl ⟨rfl, ⟨sQ cb c.length cc, lv, fq, fv, av, rr, Hq⟩, ⟨eW, rs, fun k => (by
     show Eh rr k ↔ ye (dL c n b) l k = 1
     rw [fr]
     by_cases hk : k = n
     ·subst hk; rw [<-Vn, <-Vo];exact ⟨fun h => absurd h h2, fun h => absurd h h4⟩
     ·rw [zY hn hk])⟩, rfl, rfl, hz⟩
end
theorem Pz {T z m c : Nat} {A : Option Addr} {xs : List Value} {G : Gh} {L : List aw} {w : World} (hw : an G (row T z (.slice A m c) m xs :: L) w) : m <= c := by
 obtain ⟨hh, ⟨_, h | ⟨b, cap, cur, hv, _, h1, _, _⟩⟩, _⟩ := gC hw
 ·cases h.1; omega
 cases hv; exact h1
theorem JS {T m c j : Nat} {A : Option Addr} {xs : List Value} {G : Gh} {L : List aw} {w : World} (hw : an G (row T 1 (.slice A m c) m xs :: L) w) (hj : j <= m) : an G (row T 1 (.slice A j c) j (xs.take j) :: L) w := by
 refine hw.eV fun h ⟨hl, hh⟩ => ?_
 rw [EV] at hl;refine ⟨by rw [fB]; omega, ?_⟩;rcases hh with ⟨h1, h2⟩ | ⟨b, cap, cur, hv, hb, h1, h2, h3⟩
 ·subst h2; have : j = 0 := oM;subst this; exact .inl ⟨h1, rfl⟩
 cases hv;refine .inr ⟨b, c, xs.drop j ++ cur, rfl, ?_, oM, h2, ?_⟩
 ·rw [<-pZ, N7]; exact hb
 rw [<-pZ, N7]; exact h3
theorem TN {q : Nat} {eW : List Iq} {a : Iq} {G : Gh} {R : List aw} {w : World} (hw : an G (J2 q eW :: ah a.1.1 [pQ q] 34 :: ah a.1.2.1 [iQ a.2.1] 3 :: ah a.1.2.2 [iQ a.2.2] 3 :: R) w) : an G (J2 q (eW ++ [a]) :: R) w := by
 have h := hw.gp.gp.gp;have e : (eW ++ [a]).flatMap (kB q) = eW.flatMap (kB q) ++ [ah a.1.1 [pQ q] 34] ++ [ah a.1.2.1 [iQ a.2.1] 3] ++ [ah a.1.2.2 [iQ a.2.2] 3] := by
  simp [LK, kB]
 unfold J2; rw [e]; exact h
theorem TM {q : Nat} {eW : List Iq} {G : Gh} {R : List aw} {w : World} (hw : an G (J2 q eW :: R) w) (j : Nat) : an G (J2 q (eW.take j) :: R) w := by
 refine hw.eV fun h hh => ?_
 have e : eW.flatMap (kB q) = (eW.take j).flatMap (kB q) ++ (eW.drop j).flatMap (kB q) := by rw [<-LK, N7]
 have h1 : all ((eW.take j).flatMap (kB q) ++ (eW.drop j).flatMap (kB q)) h := by rw [<-e]; exact hh
 obtain ⟨x1, x2, _, hu, h2, _⟩ := (iM _ _ _).2 h1;exact Nc (fun b o hb => hu b o (dT hb)) h2
theorem Rr {q : Nat} {eW : List Iq} {a : Iq} {L R : List aw} (ha : a ∈ eW) (hp : cG (J2 q eW) L R) : aG L fun w =>
  w.cell? ⟨a.1.1, 0, none⟩ = some (pQ q) /\ w.cell? ⟨a.1.2.1, 0, none⟩ = some (iQ a.2.1) /\ w.cell? ⟨a.1.2.2, 0, none⟩ = some (iQ a.2.2) := by
 have k : aG (kB q a) fun w => w.cell? ⟨a.1.1, 0, none⟩ = some (pQ q) /\ w.cell? ⟨a.1.2.1, 0, none⟩ = some (iQ a.2.1) /\ w.cell? ⟨a.1.2.2, 0, none⟩ = some (iQ a.2.2) :=
  fun g w hw => ⟨wv hw .here, wv hw (.there .here), wv hw (.there (.there .here))⟩
 obtain ⟨B, C, rfl⟩ := V6 ha;exact ((k.j7 (M := (B ++ a :: C).flatMap (kB q)) (B := B.flatMap (kB q)) (C := C.flatMap (kB q)) sM).head _).pick hp
theorem Zx {P : Po} {m : U9} (h : U' P m) : P.low = m.rs.head?.map (·.1) := by
 cases hr : m.rs with
 | nil =>
  rcases An (c := P.c) (l := P.l) with ⟨n, _, _, h2, _⟩ | ⟨h1, _⟩
  ·have := (h.fr n).2 h2;rw [hr] at this; exact absurd this Au
  exact h1
 | cons x r =>
  have HB := h.rs;rw [hr] at HB;have hh := Uf HB;have h1 := (h.fr x.1).1 (by rw [hr]; exact hh.1);rcases An (c := P.c) (l := P.l) with ⟨n, h0, _, h2, h3⟩ | ⟨_, h2⟩
  ·have h4 := h3 _ h1;have h5 := hh.2 n (by have := (h.fr n).2 h2; rw [hr] at this; exact this);have : n = x.1 := oM;subst this; exact h0
  exact absurd h1 (h2 _)
def Po.At (P : Po) (n : Int) : Int := if P.fL n = 0 then 15 else if P.fL n = P.refs then 13 else 0
def Po.inc (P : Po) (n : Int) : Po := if P.At n = 0 then P.act n 1 else P
def Po.dec (P : Po) (n : Int) : Po := if P.fL n = 0 then P else P.act n (-1)
theorem jY {c : List Int} {n : Int} (h : fS c n ≠ 0) : bG c n := by
 unfold fS at h;split at h
 ·assumption
 exact absurd rfl h
theorem xg {c : List Int} {n : Int} (h : bG c n) : fS c n = c.getD (n - 1).toNat 0 := by unfold fS; rw [ao h]
section
variable {G : Gh} {L R : List aw} {w : World}
theorem kD {q : Nat} {P : Po} {n : Int} (hw : an G (iE q P :: L) w) (aW : P.Ok) : Calls prog 72 #[pQ q, iQ n] w (bU fun u w' => u = iQ (P.fL n) /\ an G (iE q P :: L) w') := by
 obtain ⟨m, hf, hw⟩ := kW hw;exact jL (lB hw aW.len) fun v w' h => ⟨h.1, gx hf h.2⟩
theorem AY {q : Nat} {P : Po} {n : Int} (hw : an G (iE q P :: L) w) (aW : P.Ok) : Calls prog 82 #[pQ q, iQ n] w (bU fun u w' => u = iQ (P.st n) /\ an G (iE q P :: L) w') := by
 obtain ⟨m, hf, hw⟩ := kW hw;exact jL (iJ hw aW.len aW.last) fun v w' h => ⟨h.1, gx hf h.2⟩
theorem OR {q : Nat} {P : Po} (hw : an G (iE q P :: L) w) : Calls prog 102 #[pQ q] w (bU fun u w' => u = iQ P.c.length /\ an G (iE q P :: L) w') := by
 obtain ⟨m, hf, hw⟩ := kW hw;exact jL (Cn hw) fun v w' h => ⟨h.1, gx hf h.2⟩
theorem MM {q : Nat} {P : Po} (hw : an G (iE q P :: L) w) (Sz : 0 <= P.pf /\ P.pf + P.pa.length <= 1000000000000000) : Calls prog 204 #[pQ q] w (bU fun u w' => u = iQ P.mark /\ an G (iE q P :: L) w') := by
 obtain ⟨m, hf, hw⟩ := kW hw;obtain ⟨a, c, Ek⟩ := aP (hw.pick (A := row 374 1 m.av _ _) pK);exact jL (mi hw ⟨a, c, Ek⟩ Sz) fun v w' h => ⟨h.1, gx hf h.2⟩
theorem rA {q : Nat} {P : Po} (hw : an G (iE q P :: L) w) (aW : P.Ok) : Calls prog 10 #[pQ q] w (bU fun u w' => an G (row 3 1 u P.c.length (bg P.c) :: iE q P :: L) w') := by
 obtain ⟨m, hf, hw⟩ := kW hw;exact jL (xN hw aW.len) fun v w' h => (gx hf (h.b [ah q _ _, row 3 1 m.cv P.c.length (bg P.c), row 4 _ _ _ _, ah m.fq _ _, row 379 _ _ _ _, row 374 _ _ _ _, J2 q m.eW])).b [row 3 1 v _ _, iE q P]
end
section
variable {G : Gh} {L R : List aw} {w : World}
theorem nb {q : Nat} {P : Po} {n b : Int} (hw : an G (iE q P :: L) w) (aW : P.Ok) (hn : bG P.c n) (hb : b = 1 \/ b = -1) (ed : P.pa.length <= 10000000000000) :
  Calls prog 205 #[pQ q, iQ n, iQ b] w (bU fun r w' => r = .tuple #[] /\ an G (iE q (P.act n b) :: L) w') := by
 obtain ⟨m, hf, hw⟩ := kW hw;have Mr := aW.fL n;have hrf := aW.refs;unfold Po.fL at Mr;rw [xg hn] at Mr
 refine ad (args := [_, _, _]) func205 rfl ntmps205 rfl rfl ?_;refine z2 ?_;refine a9 rfl rfl rfl hw rfl fun w b3 hw => ?_;refine a9 rfl rfl rfl hw rfl fun w b4 hw => ?_;refine a9 rfl rfl rfl hw rfl fun w b5 hw => ?_;refine z3 ?_;refine lD aZ hw ?_;refine lD ag hw ?_;refine lD ag hw ?_;refine al rfl qj rfl (qW (P := P) (m := m) (b := b) (hw.b [ah q _ _, row 3 1 _ _ _, row 4 _ _ _ _, ah m.fq _ _, row 379 _ _ _ _, row 374 _ _ _ _, J2 q m.eW]) hf aW.len aW.last hn hb oM) rfl fun w v9 hv => ?_;obtain ⟨rfl, m', SB, has, Ek, hw⟩ := hv;refine aC ?_;refine bd [0, 1, 2, 3, 4, 5, 6, 7, 8, 9, 10, 11] bJ kR ?_;replace hw := hw.drawn (w.drawn + 1);refine lD aZ hw ?_;refine lD aZ hw ?_;refine z2 ?_;refine lD ew hw ?_;refine gP (v1 := #[]) (v2 := #[pQ b3, pQ b4, pQ b5]) rfl (by intro z hz; simp at hz; rcases hz with rfl | rfl | rfl <;> exact ⟨_, rfl⟩) sM (by simp only [jM, cH, gE]; rfl) ?_;refine aO (v := .agg #[vt ((b3, b4, b5), (n, b))]) rfl rfl (fun w => kR) ?_;refine yN rfl jm u5 CI dM rfl rfl rfl hw (fun w b17 hw q' hq => ?_) fun w b17 hw => ?_
 ·
  have hq := bm (l := [4, 1, 0]) kR hq;simp only [bQ, dz, or_false] at hq;rcases hq with rfl | rfl | rfl
  ·exact bx rfl rfl rfl (ar.bL ew hw pK rfl)
  ·exact bx rfl rfl rfl (ar.bL aZ hw pK rfl)
  exact bx rfl rfl rfl (ar.bL aZ hw pK rfl)
 refine Y5 (m := P.pa.length) (k := 1) (news := [vt ((b3, b4, b5), (n, b))]) rfl jm u5 M1 CI rfl rfl hw pK (Rd.jE hw pK) rfl (by intro u hu; simp at hu; subst hu; rfl) mL oM (fun w ED hw q' hq => ?_) (fun w ED hw => ?_)
 ·
  have hq := bm (l := [0]) kR hq;simp only [bQ, dz, or_false] at hq;subst hq;exact bx rfl rfl rfl (ar.bL aZ hw pK rfl)
 obtain ⟨va, vc, rfl⟩ := aP hw;refine z2 ?_;refine bu (l' := [_, _, _, _, _, _, _, _, _, _, _]) rfl tV rfl rfl ew rfl hw pK rfl rfl kR fun w hw => ?_;refine aC ?_;have hz := hw.b [J2 q m'.eW, ah b3 _ _, ah b4 _ _, ah b5 _ _];have hz := TN (a := ((b3, b4, b5), (n, b))) hz;have hz := hz.b [ah q _ _, row 3 1 _ _ _, row 4 _ _ _ _, ah m'.fq _ _, row 379 _ _ _ _, row 374 _ _ _ _, J2 q _, ah b17 _ _];exact kC rfl rfl ⟨rfl, gx (m := ⟨m'.cv, m'.lv, m'.fq, m'.fv, .slice va (P.pa.length + 1) vc, m'.rs, m'.eW ++ [((b3, b4, b5), (n, b))]⟩) ⟨by simp only [kz, SB.eW]; rfl, SB.rs, SB.fr⟩ (by
  have e1 : (m'.eW ++ [((b3, b4, b5), (n, b))]).map vt = m'.eW.map vt ++ [vt ((b3, b4, b5), (n, b))] := by simp
  have e2 : (P.act n b).pa.length = P.pa.length + 1 := by simp [Po.act]
  unfold TE Zm;rw [e1, e2];exact hz.b [ah q _ _, row 3 1 _ _ _, row 4 _ _ _ _, ah m'.fq _ _, row 379 _ _ _ _, row 374 _ _ _ _, J2 q _] |>.drop (A := ah b17 _ _) pK)⟩
end
theorem Ls {T z m c : Nat} {A : Option Addr} {xs : List Value} {G : Gh} {L : List aw} {w : World} (hw : an G (row T z (.slice A m c) m xs :: L) w) : ∀ a, A = some a -> a.spot = none := by
 obtain ⟨hh, ⟨_, h | ⟨b, cap, cur, hv, _, h1, _, _⟩⟩, _⟩ := gC hw
 ·cases h.1; intro a ha; cases ha
 cases hv; intro a ha; cases ha; rfl
section
variable {P : Program} {n : Nat} {ops : Array Oper} {dr : Bool} {done r : List Nat} {K : fm -> World -> Prop} {e : fm} {w : World} {i d : Nat} {t s : TypeId} {p : String} {af : Array Edge} {g : Option (Nat × Bool)} {x : Operand} {a : Int}
theorem YX (ho : ops[i]? = some ⟨some d, .unOp .neg s x, t, p, af, g⟩) (hx : ev e x = some (iQ a)) (hb : -9223372036854775807 <= a /\ a <= 9223372036854775807)
  (h : XL P n ops dr (i :: done) r K ((d, iQ (-a)) :: e) w) (hd : Nat.blt d n = true := by exact rfl) (hg : Gd ops e g := by first | trivial | exact ⟨_, rfl, rfl⟩) : XL P n ops dr done (i :: r) K e w := aaK (hd := hd) (hg := hg) ho hx (by rw [jI oM, Int.zero_sub]; exact h)
end
section
variable {G : Gh} {L R : List aw} {w : World}
theorem zp {q : Nat} {P : Po} (hw : an G (iE q P :: L) w) (aW : P.Ok) (ed : P.pa.length <= 10000000000000) :
  Calls prog 250 #[pQ q] w (bU fun r w' => (P.low = none /\ r = .tuple #[iQ 0, iQ 12] /\ an G (iE q P :: L) w') \/ (∃ n, P.low = some n /\ r = .tuple #[iQ n, iQ 0] /\ an G (iE q (P.act n 1) :: L) w')) := by
 obtain ⟨m, hf, hw⟩ := kW hw;have WU := Zx hf;refine ad (args := [_]) func250 rfl ntmps250 rfl rfl ?_;refine mN ?_;refine lD eA hw ?_;refine al rfl sD rfl (tt (hw.b [ah m.fq _ _, row 379 _ _ _ _])) rfl fun w v11 hv => ?_;obtain ⟨rfl, hw⟩ := hv;have hw := hw.b [ah q _ _, row 3 1 _ _ _, row 4 _ _ _ _, ah m.fq _ _, row 379 _ _ _ _, row 374 _ _ _ _, J2 q m.eW];have hw := gx hf hw;have hv : ∃ (n : Int) (b : Bool), aa4 m.rs = .tuple #[iQ n, .bool b] /\ ((b = false /\ P.low = none) \/ (b = true /\ P.low = some n)) := by
  cases hr : m.rs with
  | nil => rw [hr] at WU; exact ⟨0, false, rfl, .inl ⟨rfl, WU⟩⟩
  | cons x r => rw [hr] at WU; exact ⟨x.1, true, rfl, .inr ⟨rfl, WU⟩⟩
 obtain ⟨n, b, hlr, hb⟩ := hv;rw [hlr];refine mN ?_;refine jG rfl rfl ?_;refine aC ?_;refine di rfl (fun h1 => ?_) fun h1 => ?_
 ·
  have hb := hb.resolve_right (fun h => by rw [h.1] at h1; simp at h1);refine z6 ?_;exact cz rfl rfl rfl rfl (.inl ⟨hb.2, rfl, hw⟩)
 obtain ⟨rfl, Jf⟩ := hb.resolve_left (fun h => by rw [h.1] at h1; simp at h1);refine z5 ?_;refine al rfl mw rfl (nb (b := 1) hw aW (by
 rcases An (c := P.c) (l := P.l) with ⟨k, h0, h2, _, _⟩ | ⟨h0, _⟩
 ·have : k = n := by have := h0.symm.trans Jf; simpa using this
  subst this; exact h2
 ·rw [show P.low = none from h0] at Jf; cases Jf) (.inl rfl) ed) rfl (fun w ED hv => ?_)
 obtain ⟨rfl, hw⟩ := hv;refine z8 ?_;exact cz rfl rfl rfl rfl (.inr ⟨n, Jf, rfl, hw⟩)
theorem Co {q : Nat} {P : Po} {n : Int} (hw : an G (iE q P :: L) w) (aW : P.Ok) (ed : P.pa.length <= 10000000000000) :
  Calls prog 115 #[pQ q, iQ n] w (bU fun r w' => r = iQ (P.At n) /\ an G (iE q (P.inc n) :: L) w') := by
 refine ad (args := [_, _]) func115 rfl ntmps115 rfl rfl ?_;refine z9 ?_;refine al rfl dx rfl (kD hw aW) rfl fun w v7 hv => ?_;obtain ⟨rfl, hw⟩ := hv;refine z7 ?_;refine aE rfl (fun h1 => ?_) fun h1 => ?_
 ·
  refine z5 ?_;exact aK rfl rfl rfl (by
 have e : P.At n = 15 := ao h1;unfold Po.inc; rw [e]; exact ⟨rfl, hw⟩)
 obtain ⟨m, hf, hw⟩ := kW hw;refine z5 ?_;refine lD ag hw ?_;refine z3 ?_;refine aE rfl (fun h2 => ?_) fun h2 => ?_
 ·
  refine z5 ?_;exact aK rfl rfl rfl (by
 have e : P.At n = 13 := by unfold Po.At; rw [aj h1, ao h2]
 unfold Po.inc; rw [e]; exact ⟨rfl, gx hf hw⟩)
 have hw := gx hf hw;have e : P.At n = 0 := by unfold Po.At; rw [aj h1, aj h2]
 refine z5 ?_;refine al rfl mw rfl (nb (b := 1) hw aW (jY h1) (.inl rfl) ed) rfl fun w ED hv => ?_;obtain ⟨rfl, hw⟩ := hv;refine z6 ?_;exact aK rfl rfl rfl (by unfold Po.inc; rw [e]; exact ⟨rfl, hw⟩)
theorem so {q : Nat} {P : Po} {n : Int} (hw : an G (iE q P :: L) w) (aW : P.Ok) (ed : P.pa.length <= 10000000000000) :
  Calls prog 206 #[pQ q, iQ n] w (bU fun r w' => r = .tuple #[iQ (if P.fL n = 0 then 0 else P.fL n - 1), iQ (if P.fL n = 0 then 15 else 0)] /\ an G (iE q (P.dec n) :: L) w') := by
 refine ad (args := [_, _]) func206 rfl ntmps206 rfl rfl ?_;refine mN ?_;refine al rfl dx rfl (kD hw aW) rfl fun w v8 hv => ?_;obtain ⟨rfl, hw⟩ := hv;refine z2 ?_;refine aE rfl (fun h1 => ?_) fun h1 => ?_
 ·
  refine z6 ?_;exact cz rfl rfl rfl rfl (by unfold Po.dec; rw [ao h1, ao h1, ao h1]; exact ⟨rfl, hw⟩)
 have Jd := jY h1;have Mr := aW.fL n;refine z5 ?_;refine al rfl mw rfl (nb (b := -1) hw aW Jd (.inr rfl) ed) rfl fun w v12 hv => ?_;obtain ⟨rfl, hw⟩ := hv;have Mk := aW.act (b := -1) Jd (.inr rfl) (by have : P.fL n ≠ 0 := h1; omega);refine z5 ?_;refine al rfl dx rfl (kD (n := n) hw Mk) rfl fun w S8 hv => ?_;have e : (P.act n (-1)).fL n = P.fL n - 1 := by
  unfold Po.fL Po.act;simp only;rw [xg (fY.2 Jd), xg Jd, pF Jd, ao rfl]; rfl
 rw [e] at hv;obtain ⟨rfl, hw⟩ := hv;refine z4 ?_;exact cz rfl rfl rfl rfl (by unfold Po.dec; rw [aj h1, aj h1, aj h1]; exact ⟨rfl, hw⟩)
theorem zn {q b1 b2 b3 : Nat} {n b : Int} {P : Po} {m : U9} (hw : an G (TE q P m L) w) (hf : U' P m) (ha : ((b1, b2, b3), (n, b)) ∈ m.eW) (hl : P.c.length <= 65536) (nM : P.l.length = P.c.length) (hn : bG P.c n) (hb : b = 1 \/ b = -1) (hc : -1000000 <= P.c.getD (n - 1).toNat 0 /\ P.c.getD (n - 1).toNat 0 <= 1000000) :
  Calls prog 271 #[pQ b1, pQ b2, pQ b3] w (bU fun r w' => r = .tuple #[] /\ ∃ m', U' { P with c := dL P.c n (-b) } m' /\ m'.eW = m.eW /\ m'.av = m.av /\ an G (TE q { P with c := dL P.c n (-b) } m' L) w') := by
 have hbx : w.cell? ⟨b1, 0, none⟩ = some (pQ q) /\ w.cell? ⟨b2, 0, none⟩ = some (iQ n) /\ w.cell? ⟨b3, 0, none⟩ = some (iQ b) := (Rr ha (L := [J2 q m.eW]) .here).at ((hw.pick (A := J2 q m.eW) pK).head);refine ad (args := [_, _, _]) func271 rfl ntmps271 rfl rfl ?_;refine z1 ?_;refine bt rfl rfl (ar.one aZ hbx.1) ?_;refine bt rfl rfl (ar.one ag hbx.2.1) ?_;refine bt rfl rfl (ar.one ag hbx.2.2) ?_;refine YX rfl rfl oM ?_;refine al rfl qj rfl (qW (b := -b) hw hf hl nM hn oM hc) rfl fun w v7 hv => ?_;refine aC ?_;exact kC rfl rfl ⟨rfl, hv.2⟩
theorem AX {q : Nat} {P : Po} {mk : Int} (hw : an G (iE q P :: L) w) (aW : P.Ok) (Sz : 0 <= P.pf /\ P.pf + P.pa.length <= 1000000000000000) : Calls prog 247 #[pQ q, iQ mk] w (bU fun r w' =>
  (¬ (P.pf <= mk /\ mk <= P.mark) /\ r = .bool false /\ an G (iE q P :: L) w') \/ (P.pf <= mk /\ mk <= P.mark /\ r = .bool true /\ an G (iE q (P.JO (mk - P.pf).toNat) :: L) w')) := by
 obtain ⟨m, hf, hw⟩ := kW hw;obtain ⟨aa, ac, Ek⟩ := aP (hw.pick (A := row 374 1 m.av _ _) pK);have OH : P.pa.length <= ac := by
  have h := hw.pick (A := row 374 1 m.av _ _) pK;rw [Ek] at h; exact Pz h
 have Av : ∀ a, aa = some a -> a.spot = none := by
  have h := hw.pick (A := row 374 1 m.av _ _) pK;rw [Ek] at h; exact Ls h
 have acW : m.eW.length = P.pa.length := by have := congrArg List.length hf.eW; simpa using this
 refine ad (args := [_, _]) func247 rfl ntmps247 rfl rfl ?_;refine Ht ?_;refine lD (v := iQ P.pf) ag hw ?_;refine z2 ?_;refine ay (d := 12) rfl (fun h1 => ?_) fun h1 => ?_
 ·
  refine z6 ?_;refine bY rfl ?_;refine z5 ?_;exact aK rfl rfl rfl (.inl ⟨oM, rfl, gx hf hw⟩)
 refine z2 ?_;refine al rfl lF rfl (mi hw ⟨aa, ac, Ek⟩ Sz) rfl fun w S8 hv => ?_;obtain ⟨rfl, hw⟩ := hv;refine z3 ?_;refine aE rfl (fun h2 => ?_) fun h2 => ?_
 ·
  have UL : P.pf + P.pa.length < mk := h2;refine z5 ?_;exact aK rfl rfl rfl (.inl ⟨by unfold Po.mark; omega, rfl, gx hf hw⟩)
 have UL : ¬ P.pf + P.pa.length < mk := h2;refine z7 ?_;refine bt rfl rfl (ar.bL (v := .slice aa P.pa.length ac) ew hw pK (by show some m.av = _; rw [Ek])) ?_;refine eJ rfl kR jm rfl ?_;refine z4 ?_;obtain ⟨as0, W5⟩ : ∃ x, x = m.eW := ⟨_, rfl⟩;obtain ⟨av0, R2⟩ : ∃ x, x = m.av := ⟨_, rfl⟩;have PR : lJ P.c (P.pa.drop P.pa.length) = P.c := by rw [LD]; rfl
 refine bF (fun m e w => ∃ (j : Nat) (m' : U9), (mk - P.pf).toNat <= j /\ j <= P.pa.length /\ m = j + 1 /\ e = [(0, pQ q), (1, iQ mk), (5, iQ ((j : Int) - 1))] /\ (U' { P with c := lJ P.c (P.pa.drop j) } m' /\ m'.eW = as0 /\ m'.av = av0) /\ an G (TE q { P with c := lJ P.c (P.pa.drop j) } m' L) w)
  (m := P.pa.length + 1) sB
  ⟨P.pa.length, m, oM, g8 _, rfl, rfl, ⟨by rw [PR]; exact hf, W5.symm, R2.symm⟩, by rw [PR]; exact hw⟩ ?_
 rintro m e w ⟨j, m', hj1, hj2, rfl, rfl, ⟨SB, W6, R3⟩, hw⟩;refine z8 ?_;refine lD (v := iQ P.pf) ag hw ?_;refine z3 ?_;refine aE rfl (fun h3 => ?_) fun h3 => ?_
 ·
  have hj : (mk - P.pf).toNat < j := oM;obtain ⟨⟨⟨b1, b2, b3⟩, n, b⟩, ha⟩ : ∃ a, as0[j - 1]? = some a := ⟨_, dm (by rw [W5]; omega)⟩;obtain ⟨a, VB⟩ : ∃ a : Iq, a = ((b1, b2, b3), (n, b)) := ⟨_, rfl⟩;rw [<-VB] at ha;have hpa : P.pa[j - 1]? = some (n, b) := by rw [<-hf.eW, dg, <-W5, ha, VB]; rfl
  have W8 := aW.aaw _ (gl hpa);obtain ⟨-, ab, _, B6, -⟩ := hY (m := P.pa.length) (A := aa) (c := ac) (by have h := hw.pick (A := row 374 1 m'.av _ _) pK; rw [R3, R2, Ek] at h; exact h) oM;subst B6;have s7 : qx (sQ ab P.pa.length ac) (as0.map vt) w := by
   have h := (Yf (cs := m'.eW.map vt) (T := 374) (n := P.pa.length) (v := m'.av) (by rw [bX, W6, W5, acW]) pK).at hw;rw [W6, R3, R2, Ek] at h; exact h
  refine z7 ?_;refine bt rfl rfl (ar.bL (v := sQ ab P.pa.length ac) ew hw pK (by show some m'.av = _; rw [R3, R2, Ek])) ?_;refine z1 ?_;refine cR rfl jm u5 rfl rfl ⟨oM, oM⟩ ?_;refine cS rfl yl rfl ?_;refine bt rfl rfl (ar.one (v := .func (.func 271) #[] #[pQ b1, pQ b2, pQ b3]) TU (s7.at (by rw [show ((j : Int) - 1).toNat = j - 1 by omega, dg, ha, VB]; rfl))) ?_;refine fc rfl rfl xX rfl rfl (zn (b1 := b1) (b2 := b2) (b3 := b3) (n := n) (b := b) hw SB (by rw [W6, <-VB]; exact gl ha) (by rw [lW]; exact aW.len) (by rw [lW]; exact aW.last) (by unfold bG at W8 ⊢; rw [lW]; exact W8.1) W8.2 (by
     have iy : (n - 1).toNat < (lJ P.c (P.pa.drop j)).length := by rw [lW]; unfold bG at W8; omega
     have := aW.OD j hj2 _ (JW iy);have hr := aW.refs;rw [lP, dm iy]
     show _ <= (lJ P.c (P.pa.drop j))[_] /\ (lJ P.c (P.pa.drop j))[_] <= _
     omega)) rfl (fun w Hu hv => ?_)
  obtain ⟨rfl, m2, RV, acX, acU, hw⟩ := hv;have jB : dL (lJ P.c (P.pa.drop j)) n (-b) = lJ P.c (P.pa.drop (j - 1)) := by
   have := eF hpa;rw [this, show j - 1 + 1 = j by omega]; rfl
  rw [jB] at RV hw;refine z6 ?_;exact ⟨j - 1 + 1, oM, [(0, _), (1, _), (5, iQ (((j - 1 : Nat) : Int) - 1))], by rw [show (((j - 1 : Nat) : Int) - 1) = (j : Int) - 1 - 1 by omega]; exact sB, j - 1, m2, oM, oM, rfl, rfl, ⟨RV, by rw [acX]; exact W6, by rw [acU]; exact R3⟩, hw⟩
 have hj : j = (mk - P.pf).toNat := oM;refine z2 ?_;refine bd [0, 1, 2, 3, 4, 5, 6, 7, 8, 9, 10, 11, 12, 13, 14] bJ kR ?_;replace hw := hw.drawn (w.drawn + 1);refine z4 ?_;refine bt rfl rfl (ar.bL (v := .slice aa P.pa.length ac) ew hw pK (by show some m'.av = _; rw [R3, R2, Ek])) ?_;refine z4 ?_;refine lD (v := iQ P.pf) ag hw ?_;refine z1 ?_;refine u1 rfl jm JP rfl Av rfl ⟨oM, oM⟩ ?_;refine z2 ?_;refine bu (l' := [_, _, _, _, _, _, _, _, _, _, _]) rfl tV rfl rfl ew rfl hw pK rfl rfl kR fun w hw => ?_;refine z6 ?_;exact aK rfl rfl rfl (.inr ⟨oM, by unfold Po.mark; omega, rfl, by
 have hz := hw.b [row 374 _ _ _ _];rw [R3, R2, Ek] at hz;have hz := JS hz hj2;have hz := hz.b [J2 q m'.eW];have hz := TM hz j;have hz := hz.b [ah q _ _, row 3 1 _ _ _, row 4 _ _ _ _, ah m'.fq _ _, row 379 _ _ _ _, row 374 _ _ _ _, J2 q _];rw [<-hj];refine gx (P := P.JO j) (m := ⟨m'.cv, m'.lv, m'.fq, m'.fv, .slice aa j ac, m'.rs, m'.eW.take j⟩) ⟨?_, SB.rs, SB.fr⟩ ?_
 ·show (m'.eW.take j).map (·.2) = P.pa.take j
  rw [List.map_take, SB.eW]
 ·have e : (P.JO j).pa.length = j := by simp only [Po.JO, fB]; omega
  unfold TE Zm;rw [e, List.map_take];have ej : ((mk - P.pf).toNat) = j := hj.symm;rw [ej] at hz;exact hz⟩)
end
abbrev D9 := Int × bT × Bool
def ri (x : D9) : List Value := iQ x.1 :: x.2.1.cells ++ [.bool x.2.2]
theorem Y9 (l : List D9) : ∀ r ∈ l.map ri, r.length = 7 := fun r hr => by obtain ⟨x, _, rfl⟩ := dE.1 hr; rfl
def Ha (S : List bT) (y : D9) : Prop := (y.2.2 = true -> y.2.1 ∈ S) /\ (y.2.2 = false -> y.2.1 = eh)
theorem Ha.app {S : List bT} {y : D9} (h : Ha S y) (T : List bT) : Ha (S ++ T) y := ⟨fun e => xt _ (h.1 e), h.2⟩
def oB (x : D9) : Int × Option Pg := (x.1, if x.2.2 = true then some x.2.1.pg else none)
abbrev Ve := Int × Value × List D9
def CE (a : Ve) : List Value := [iQ a.1, a.2.1]
theorem U5 (l : List Ve) : ∀ r ∈ l.map CE, r.length = 2 := fun r hr => by obtain ⟨x, _, rfl⟩ := dE.1 hr; rfl
abbrev kp (a : Ve) : aw := row 359 7 a.2.1 a.2.2.length (a.2.2.map ri).flatten
def Ng (a : Ve) : Int × List (Int × Option Pg) := (a.1, a.2.2.map oB)
structure QF where
 q : Nat
 om : Nat
 av : Value
 on : List (Int × bT)
 S : List bT
 eW : List Ve
abbrev vaP (vq : Nat) (V : Va) (m : QF) (L : List aw) : List aw := ah vq (Za m.q m.om m.av V.vf) 38 :: bH m.om (jP m.on) :: oy m.S :: row 284 2 m.av m.eW.length (m.eW.map CE).flatten :: aV (m.eW.map kp) :: iE m.q V.po :: L
structure XX (V : Va) (m : QF) : Prop where
 on : ∀ n, (w5 m.on n).map bT.pg = V.on n
 Nq : ∀ n p, w5 m.on n = some p -> p ∈ m.S
 sm : ∀ p ∈ m.S, p.Sm
 eW : m.eW.map Ng = V.va
 KO : ∀ a ∈ m.eW, ∀ x ∈ a.2.2, Ha m.S x
def cj (vq : Nat) (V : Va) : aw := ex fun m : QF => lZ (XX V m) (aV (vaP vq V m []))
theorem iW {vq : Nat} {V : Va} {G : Gh} {L : List aw} {w : World} (h : an G (cj vq V :: L) w) : ∃ m, XX V m /\ an G (vaP vq V m L) w := by
 obtain ⟨m, h⟩ := h.fD;obtain ⟨hf, h⟩ := h.eE;exact ⟨m, hf, h.cF⟩
theorem gR {vq : Nat} {V : Va} {m : QF} {G : Gh} {L : List aw} {w : World} (hf : XX V m) (h : an G (vaP vq V m L) w) : an G (cj vq V :: L) w :=
 an.gh m (an.fJ hf (an.bz (M := vaP vq V m []) h))
structure VwV where
 m : QF
 sv : Value
 ws : List D9
abbrev Ss (vq b : Nat) (mk : Int) (x : Vw) (m : VwV) (L : List aw) : List aw := ah b [iQ mk, m.sv] 284 :: row 359 7 m.sv m.ws.length (m.ws.map ri).flatten :: vaP vq x.v m.m L
structure VF (x : Vw) (m : VwV) : Prop where
 f : XX x.v m.m
 ws : m.ws.map oB = x.was
 X6 : ∀ y ∈ m.ws, Ha m.m.S y
def tP (vq b : Nat) (mk : Int) (x : Vw) : aw := ex fun m : VwV => lZ (VF x m) (aV (Ss vq b mk x m []))
theorem iV {vq b : Nat} {mk : Int} {x : Vw} {G : Gh} {L : List aw} {w : World} (h : an G (tP vq b mk x :: L) w) : ∃ m, VF x m /\ an G (Ss vq b mk x m L) w := by
 obtain ⟨m, h⟩ := h.fD;obtain ⟨hf, h⟩ := h.eE;exact ⟨m, hf, h.cF⟩
theorem gw {vq b : Nat} {mk : Int} {x : Vw} {m : VwV} {G : Gh} {L : List aw} {w : World} (hf : VF x m) (h : an G (Ss vq b mk x m L) w) : an G (tP vq b mk x :: L) w :=
 an.gh m (an.fJ hf (an.bz (M := Ss vq b mk x m []) h))
theorem cT : iR eh.cells := by intro u hu; simp only [eh, bT.cells, bQ, dz, or_false] at hu; rcases hu with rfl | rfl | rfl | rfl | rfl <;> rfl
theorem Ed {V : Va} {m : QF} (hf : XX V m) (n : Int) {G : Gh} {L R : List aw} {w : World} (hw : an G L w) (hp : cG (oy m.S) L R) : ∃ (p0 : bT) (b0 : Bool),
  (cO (jP m.on) n).getD (gQ eh.cells) = gQ p0.cells /\ (cO (jP m.on) n).isSome = b0 /\ iR p0.cells /\ (if b0 = true then some p0.pg else none) = V.on n /\ (b0 = true -> p0 ∈ m.S) /\ (b0 = false -> p0 = eh) /\ p0.pg = V.pg n := by
 have Uu := hf.on n;rw [Ao];cases h : w5 m.on n with
 | none => rw [h] at Uu; exact ⟨eh, false, rfl, rfl, cT, Uu, (fun h => by cases h), fun _ => rfl, by unfold Va.pg; rw [<-Uu]; rfl⟩
 | some p =>
  rw [h] at Uu;have hS := hf.Nq n p h;exact ⟨p, true, rfl, rfl, dX (vd hS (hf.sm p hS) hp) hw, Uu, fun _ => hS, (fun h => by cases h), by unfold Va.pg; rw [<-Uu]; rfl⟩
theorem PH {on : List (Int × bT)} {n : Int} {p : bT} : ∃ CW, jP CW = lr (jP on) n (gQ p.cells) /\ ∀ k, w5 CW k = if k = n then some p else w5 on k := by
 induction on with
 | nil => exact ⟨[(n, p)], rfl, fun k => by
   unfold w5
   by_cases h : k = n
   ·subst h; simp
   ·have h2 : (n == k) = false := by simpa using fun e => h e.symm
    simp [h, h2]⟩
 | cons x on ih =>
  obtain ⟨CW, h1, h2⟩ := ih
  by_cases hx : x.1 = n
  ·refine ⟨(n, p) :: on, ?_, fun k => ?_⟩
   ·simp only [jP, cH, lr];rw [ao hx.symm, hx]
   unfold w5;simp only [NY]
   by_cases h : k = n
   ·subst h; simp
   have e1 : (n == k) = false := by simpa using fun e => h e.symm
   have e2 : (x.1 == k) = false := by rw [hx]; exact e1
   simp [h, e1, e2]
  refine ⟨x :: CW, ?_, fun k => ?_⟩
  ·simp only [jP, cH, lr] at h1 ⊢;rw [aj (fun e => hx e.symm), h1]
  have h3 := h2 k;unfold w5 at h3 ⊢;simp only [NY]
  by_cases h : x.1 = k
  ·have e1 : (x.1 == k) = true := by simpa using h
   have : ¬ k = n := fun e => hx (h.trans e)
   simp [e1, this]
  have e1 : (x.1 == k) = false := by simpa using h
  simp only [e1];exact h3
theorem PJ {on : List (Int × bT)} (hn : ((jP on).map (·.1)).Nodup) {n : Int} : ∃ CW, jP CW = rm (jP on) n /\ ∀ k, w5 CW k = if k = n then none else w5 on k := by
 induction on with
 | nil => exact ⟨[], rfl, fun k => by unfold w5; simp⟩
 | cons x on ih =>
  have Yv : x.1 ∉ (jP on).map (·.1) /\ ((jP on).map (·.1)).Nodup := by simpa [jP] using hn
  by_cases hx : x.1 = n
  ·refine ⟨on, ?_, fun k => ?_⟩
   ·simp only [jP, cH, rm];rw [ao hx.symm]
   unfold w5;simp only [NY]
   by_cases h : k = n
   ·subst h;rw [ao rfl];have : on.find? (fun y => y.1 == k) = none := by
     rw [Ts];intro y hy;have : y.1 ≠ k := fun e => Yv.1 (by rw [hx, <-e, IX]; exact dE.2 ⟨y, hy, rfl⟩)
     simpa using this
    rw [this]; rfl
   have e2 : (x.1 == k) = false := by simpa using fun e => h (e.symm.trans hx)
   rw [aj h];simp [e2]
  obtain ⟨CW, h1, h2⟩ := ih Yv.2;refine ⟨x :: CW, ?_, fun k => ?_⟩
  ·simp only [jP, cH, rm] at h1 ⊢;rw [aj (fun e => hx e.symm), h1]
  have h3 := h2 k;unfold w5 at h3 ⊢;simp only [NY]
  by_cases h : x.1 = k
  ·have e1 : (x.1 == k) = true := by simpa using h
   have : ¬ k = n := fun e => hx (h.trans e)
   simp [e1, this]
  have e1 : (x.1 == k) = false := by simpa using h
  simp only [e1];exact h3
theorem Ff {m : Nat} {kv : KV} {G : Gh} {L R : List aw} {w : World} (hw : an G L w) (hp : cG (bH m kv) L R) : (kv.map (·.1)).Nodup := by
 obtain ⟨es, ck, hf, _⟩ := lL (hw.pick hp);exact hf.keys
theorem VF.len {x : Vw} {m : VwV} (h : VF x m) : m.ws.length = x.was.length := by have := congrArg List.length h.ws; simpa using this
section
variable {G : Gh} {L R : List aw} {w : World}
theorem oV {vq b : Nat} {mk n : Int} {x : Vw} (hw : an G (tP vq b mk x :: L) w) (ed : x.was.length <= 1000000000000) :
  Calls prog 272 #[pQ vq, pQ b, iQ n] w (bU fun r w' => r = .tuple #[] /\ an G (tP vq b mk (x.note n) :: L) w') := by
 obtain ⟨m, hf, hw⟩ := iV hw;have hlen := hf.len;obtain ⟨p0, b0, Mj, VA, jd, K1, hS, hZ, -⟩ := Ed hf.f n hw (L := Ss vq b mk x m L) pK;refine ad (args := [_, _, _]) func272 rfl ntmps272 rfl rfl ?_;refine z5 ?_;refine lD bV hw ?_;refine z1 ?_;refine SZ (v0 := gQ p0.cells) (b0 := b0) rfl cJ cP jF rfl rfl hw pK Mj VA ?_;refine z3 ?_;refine aF rfl bE hw rfl fun w b6 hw => ?_;refine aT (cs := p0.cells) (l' := p0.cells) rfl tV rfl rfl ae rfl jd hw pK (by simp [bT.cells]) rfl rfl fun w hw => ?_;refine z2 ?_;refine bd [0, 1, 2, 3, 4, 5, 6, 7, 8, 9, 10, 11, 12, 13] bJ kR ?_;replace hw := hw.drawn (w.drawn + 1);refine z4 ?_;refine lD gm hw ?_;refine z1 ?_;refine lA ae hw ?_;refine z1 ?_;refine aO (v := gQ (ri (n, p0, b0))) rfl rfl (fun w => kR) ?_;refine yN rfl mC sS zO dM rfl rfl rfl hw (fun w b26 hw q' hq => ?_) fun w b26 hw => ?_
 ·
  have hq := bm (l := [4]) kR hq;simp only [bQ, dz, or_false] at hq;subst hq;exact bx rfl rfl rfl (ar.bL gm hw pK rfl)
 refine fH (m := m.ws.length) (k := 1) (news := ri (n, p0, b0)) rfl mC sS KI zO rfl rfl hw pK (Rd.jE hw pK) rfl (by intro u hu; unfold ri at hu; rcases bQ.1 hu with rfl | hu; rfl; rcases gF.1 hu with hu | hu; exact jd u hu; simp at hu; subst hu; rfl) mL oM kR (fun w Ya hw => ?_);obtain ⟨va, vc, rfl⟩ := aP hw;refine z2 ?_;refine bu (l' := [_, _]) rfl tV rfl rfl gm rfl hw pK rfl rfl kR fun w hw => ?_;refine aC ?_;have hz := (hw.b [ah b6 _ _, ah b26 _ _, ah b _ _, row 359 _ _ _ _, ah vq _ _]).tail.tail;refine kC rfl rfl ⟨rfl, gw (x := x.note n) (m := ⟨m.m, .slice va (m.ws.length + 1) vc, m.ws ++ [(n, p0, b0)]⟩) ⟨hf.f, ?_, ?_⟩ ?_⟩
 ·show (m.ws ++ [(n, p0, b0)]).map oB = x.was ++ [(n, x.v.on n)]
  rw [kz, hf.ws, <-K1]; rfl
 ·intro y hy;rcases gF.1 hy with hy | hy
  ·exact hf.X6 y hy
  simp at hy; subst hy; exact ⟨hS, hZ⟩
 have e : ((m.ws ++ [(n, p0, b0)]).map ri).flatten = (m.ws.map ri).flatten ++ ri (n, p0, b0) := by simp
 unfold Ss;simp only [e, de, mG];exact hz
theorem lz {vq b : Nat} {mk n : Int} {x : Vw} {p : bT} (hw : an G (tP vq b mk x :: cB p :: L) w) (hp : p.Sm) (ed : x.was.length <= 1000000000000) :
  Calls prog 251 #[pQ vq, pQ b, iQ n, gQ p.cells] w (bU fun r w' => r = .tuple #[] /\ an G (tP vq b mk (x.put n (some p.pg)) :: L) w') := by
 refine ad (args := [_, _, _, _]) func251 rfl ntmps251 rfl rfl ?_;refine z2 ?_;refine a9 rfl rfl rfl hw rfl fun w b7 hw => ?_;refine z6 ?_;refine al rfl nW rfl (oV (n := n) (hw.b [tP vq b mk x]) ed) rfl fun w v11 hv => ?_;obtain ⟨rfl, hw⟩ := hv;obtain ⟨m, hf, hw⟩ := iV hw;refine aC ?_;refine bd [0, 1, 2, 3, 4, 5, 6] bJ kR ?_;replace hw := hw.drawn (w.drawn + 1);refine z3 ?_;refine lD bV hw ?_;refine z1 ?_;refine lA ae hw ?_;refine Ld rfl tV cJ cP rfl rfl rfl hw pK kR fun w hw => ?_;refine aC ?_;obtain ⟨CW, he1, RX⟩ := PH (on := m.m.on) (n := n) (p := p);rw [<-he1] at hw;have hz := (hw.b [oy m.m.S, cB p]).gp;have e : m.m.S.map cB ++ [cB p] = (m.m.S ++ [p]).map cB := by simp
 rw [e] at hz;have hz := (hz.b [ah b7 _ _, ah b _ _, row 359 _ _ _ _, ah vq _ _, bH _ _, aV ((m.m.S ++ [p]).map cB), row 284 _ _ _ _, aV _, iE _ _]).tail;refine kC rfl rfl ⟨rfl, gw (x := x.put n (some p.pg)) (m := ⟨⟨m.m.q, m.m.om, m.m.av, CW, m.m.S ++ [p], m.m.eW⟩, m.sv, m.ws⟩) ⟨⟨?_, ?_, ?_, hf.f.eW, ?_⟩, hf.ws, ?_⟩ hz⟩
 ·intro k
  show (w5 CW k).map bT.pg = xo x.v.on n (some p.pg) k
  rw [RX]; unfold xo;split
  ·rfl
  exact hf.f.on k
 ·intro k q hq;rw [RX] at hq;split at hq
  ·simp at hq; subst hq; exact N5 _ (List.mem_singleton.2 rfl)
  exact xt _ (hf.f.Nq k q hq)
 ·intro q hq;rcases gF.1 hq with hq | hq
  ·exact hf.f.sm q hq
  simp at hq; subst hq; exact hp
 ·exact fun a ha y hy => (hf.f.KO a ha y hy).app _
 exact fun y hy => (hf.X6 y hy).app _
theorem oW {vq b : Nat} {mk n : Int} {x : Vw} (hw : an G (tP vq b mk x :: L) w) (aW : x.v.po.Ok) (ed : x.was.length <= 1000000000000) :
  Calls prog 207 #[pQ vq, pQ b, iQ n] w (bU fun r w' => r = .tuple #[] /\ an G (tP vq b mk (x.free n) :: L) w') := by
 obtain ⟨m, hf, hw⟩ := iV hw;refine ad (args := [_, _, _]) func207 rfl ntmps207 rfl rfl ?_;refine z5 ?_;refine lD aZ hw ?_;refine z1 ?_;refine al rfl fT rfl (AY (n := n) (hw.b [iE m.m.q x.v.po]) aW) rfl fun w v11 hv => ?_;obtain ⟨rfl, hw⟩ := hv;have hw := gw hf (hw.b [ah b _ _, row 359 _ _ _ _, ah vq _ _, bH _ _, oy _, row 284 _ _ _ _, aV (m.m.eW.map kp), iE _ _]);refine z2 ?_;refine aE rfl (fun h1 => ?_) fun h1 => ?_
 ·
  have hfr : x.free n = x.put n none := by unfold Vw.free Va.st; rw [ao h1]
  refine z5 ?_;refine al rfl nW rfl (oV (n := n) hw ed) rfl fun w v16 hv => ?_;obtain ⟨rfl, hw⟩ := hv;clear hf;obtain ⟨m, hf, hw⟩ := iV hw;have Kb := Ff hw (m := m.m.om) (kv := jP m.m.on) pK;refine z5 ?_;refine lD bV hw ?_;refine z1 ?_;refine S1 rfl tV rfl cJ cP rfl rfl hw pK rfl fun w hw => ?_;refine aC ?_;obtain ⟨CW, he1, RX⟩ := PJ Kb (n := n);rw [<-he1] at hw;rw [hfr];have hz := hw.b [ah b _ _, row 359 _ _ _ _, ah vq _ _];refine kC rfl rfl ⟨rfl, gw (x := x.put n none) (m := ⟨⟨m.m.q, m.m.om, m.m.av, CW, m.m.S, m.m.eW⟩, m.sv, m.ws⟩) ⟨⟨?_, ?_, hf.f.sm, hf.f.eW, hf.f.KO⟩, hf.ws, hf.X6⟩ hz⟩
  ·intro k
   show (w5 CW k).map bT.pg = xo x.v.on n none k
   rw [RX]; unfold xo;split
   ·rfl
   exact hf.f.on k
  intro k q hq;rw [RX] at hq;split at hq
  ·cases hq
  exact hf.f.Nq k q hq
 have hfr : x.free n = x := by unfold Vw.free Va.st; rw [aj h1]
 refine dS ?_;exact kC rfl rfl ⟨rfl, by rw [hfr]; exact hw⟩
end
def adn (l : List D9) (k : Nat) (args : List Value) (_ : List aw) : Prop := ∃ x, l[l.length - 1 - k]? = some x /\ args = [iQ ((l.length : Int) - 1 - k), gQ (ri x)]
theorem S4 {S : List bT} {y : D9} (h : Ha S y) (hs : ∀ p ∈ S, p.Sm) {G : Gh} {L R : List aw} {w : World} (hw : an G L w) (hp : cG (oy S) L R) : iR (ri y) := by
 have hc : iR y.2.1.cells := by
  cases hb : y.2.2 with
  | true => exact dX (vd (h.1 hb) (hs _ (h.1 hb)) hp) hw
  | false => rw [h.2 hb]; exact cT
 intro u hu;unfold ri at hu;rcases bQ.1 hu with rfl | hu
 ·rfl
 rcases gF.1 hu with hu | hu
 ·exact hc u hu
 simp at hu; subst hu; rfl
def q6 (V : Va) (was : List (Int × Option Pg)) (k : Nat) : Va := { V with on := yP V.on (was.drop (was.length - k)) }
theorem O3 {V : Va} {was : List (Int × Option Pg)} {k : Nat} {x : Int × Option Pg} (hk : k < was.length) (hx : was[was.length - 1 - k]? = some x) : q6 V was (k + 1) = { V with on := xo (q6 V was k).on x.1 x.2 } := by
 unfold q6;have h1 : was.length - (k + 1) = was.length - 1 - k := oM;rw [h1, eF hx, show was.length - 1 - k + 1 = was.length - k by omega];rfl
abbrev vbP (vq : Nat) (V : Va) (m : QF) (L : List aw) : List aw := ah vq (Za m.q m.om m.av V.vf) 38 :: bH m.om (jP m.on) :: oy m.S :: iE m.q V.po :: L
structure YT (V : Va) (m : QF) : Prop where
 on : ∀ n, (w5 m.on n).map bT.pg = V.on n
 Nq : ∀ n p, w5 m.on n = some p -> p ∈ m.S
 sm : ∀ p ∈ m.S, p.Sm
theorem XX.g {V : Va} {m : QF} (h : XX V m) : YT V m := ⟨h.on, h.Nq, h.sm⟩
abbrev bkB (vq b2 : Nat) (V : Va) (m : QF) : aw := ex fun on : List (Int × bT) => lZ (YT V { m with on := on }) (aV (ah b2 [pQ vq] 28 :: vbP vq V { m with on := on } []))
theorem Qk {vq b2 : Nat} {V : Va} {m : QF} {G : Gh} {L : List aw} {w : World} (h : an G (bkB vq b2 V m :: L) w) : ∃ on, YT V { m with on := on } /\ an G (ah b2 [pQ vq] 28 :: vbP vq V { m with on := on } L) w := by
 obtain ⟨on, h⟩ := h.fD;obtain ⟨hf, h⟩ := h.eE;exact ⟨on, hf, h.cF⟩
theorem KK {vq b2 : Nat} {V : Va} {m : QF} {on : List (Int × bT)} {G : Gh} {L : List aw} {w : World} (hf : YT V { m with on := on }) (h : an G (ah b2 [pQ vq] 28 :: vbP vq V { m with on := on } L) w) : an G (bkB vq b2 V m :: L) w :=
 an.gh on (an.fJ hf (an.bz (M := ah b2 [pQ vq] 28 :: vbP vq V { m with on := on } []) h))
section
variable {G : Gh} {L R : List aw} {w : World}
theorem jW {a : Option Addr} {n c : Nat} (hw : an G L w) : Calls prog 248 #[.slice a n c] w (bU fun r w' => ∃ b1, r = .func (.func 314) #[] #[pQ b1] /\ an G (ah b1 [.slice a n c] 282 :: L) w') := by
 refine ad (args := [_]) func248 rfl ntmps248 rfl rfl ?_;refine z2 ?_;refine a9 rfl rfl rfl hw rfl fun w b1 hw => ?_;refine z4 ?_;refine gP (v1 := #[]) (v2 := #[pQ b1]) rfl (by intro z hz; simp at hz; subst hz; exact ⟨_, rfl⟩) sM (by simp only [jM, cH, gE]; rfl) ?_;refine z3 ?_;exact aK rfl rfl rfl ⟨b1, rfl, hw⟩
theorem Dv {l : List D9} {v : Value} {b1 : Nat} (kl : aG L (g7 7 v (l.map ri))) (nM : l.length <= 10000000000000) : Bq prog 314 [pQ b1] G (ah b1 [v] 282 :: L) w l.length (adn l) (ah b1 [v] 282 :: L) := by
 intro lq J Jx w hy hw;obtain ⟨sa, sc, h1, -, -⟩ := ((kl.of sF).at hw).form;rw [bX] at h1;subst h1;refine ad (args := [_, _]) func314 rfl ntmps314 rfl rfl ?_;refine z2 ?_;refine lD gm hw ?_;refine eJ rfl kR mC rfl ?_;refine z1 ?_;have e0 : (l.length : Int) - 1 = (l.length : Int) - 1 - (0 : Nat) := by simp
 rw [e0];refine z3 ?_;refine bF (fun m e w => ∃ k : Nat, k <= l.length /\ m = l.length - k /\ e = [(0, .func (.yield lq) #[] #[]), (1, pQ b1), (3, iQ ((l.length : Int) - 1 - k))] /\ an G (J k :: ah b1 [.slice sa l.length sc] 282 :: L) w)
  (m := l.length) sB
  ⟨0, dy _, rfl, rfl, hw⟩ ?_
 rintro m e w ⟨k, hk, rfl, rfl, hw⟩;refine z6 ?_;refine aE rfl (fun h1 => ?_) fun h1 => ?_
 ·
  have gK : k < l.length := oM;obtain ⟨x, hx⟩ : ∃ x, l[l.length - 1 - k]? = some x := ⟨_, dm oM⟩;have tU : (l.map ri)[l.length - 1 - k]? = some (ri x) := by rw [dg, hx]; rfl
  obtain ⟨bb, oo, rfl⟩ := ((kl.of sF).at hw).nn (by rw [bX]; omega);have hi : ((l.length : Int) - 1 - k).toNat = l.length - 1 - k := oM;refine z7 ?_;refine lD gm hw ?_;refine z1 ?_;refine eY rfl mC sS rfl rfl ⟨oM, oM⟩ ?_;refine bt rfl rfl (ar.many vD rfl (by rw [hi]; exact ((kl.of sF).at hw).at tU)) ?_;refine pk rfl rfl rfl (hy k _ _ w gK ⟨x, hx, rfl⟩ hw) rfl fun w v17 hv => ?_;obtain ⟨bq, rfl, r9, zL⟩ := nD hv;refine jG rfl rfl ?_;refine aC ?_;refine di rfl (fun h2 => ?_) fun h2 => ?_
  ·
   refine rL ?_;exact kC rfl rfl (.inr (zL (by simpa using h2)))
  refine z6 ?_;have hw := r9 (by simpa using h2);refine ⟨l.length - (k + 1), oM, [(0, _), (1, _), (3, iQ ((l.length : Int) - 1 - (k + 1 : Nat)))], ?_, k + 1, oM, rfl, rfl, hw⟩;rw [show ((l.length : Int) - 1 - (k + 1 : Nat)) = (l.length : Int) - 1 - k - 1 by omega];exact sB
 refine z1 ?_;exact kC rfl rfl (.inl (by
 have pA : k = l.length := oM;subst pA; exact hw))
theorem oY {vq : Nat} {V : Va} {m : QF} {mk : Int} {sv : Value} {ws : List D9} (hw : an G (vbP vq V m L) w) (hf : YT V m) (kw : aG L (g7 7 sv (ws.map ri))) (Jc : ∀ y ∈ ws, Ha m.S y) (nM : ws.length <= 10000000000000) (aW : V.po.Ok) (Sz : 0 <= V.po.pf /\ V.po.pf + V.po.pa.length <= 1000000000000000) (Hm : V.po.pf <= mk /\ mk <= V.po.mark) :
  Calls prog 161 #[pQ vq, .agg #[iQ mk, sv]] w (bU fun r w' => r = .tuple #[] /\ ∃ on, YT (V.back mk (ws.map oB)) { m with on := on } /\ an G (vbP vq (V.back mk (ws.map oB)) { m with on := on } L) w') := by
 obtain ⟨sa, sc, RP, -, -⟩ := (kw.at (by (repeat replace hw := hw.tail); exact hw)).form;subst RP;rw [bX] at *;refine ad (args := [_, _]) func161 rfl ntmps161 rfl rfl ?_;refine z2 ?_;refine a9 rfl rfl rfl hw rfl fun w b2 hw => ?_;refine a9 rfl rfl rfl hw rfl fun w b3 hw => ?_;refine z2 ?_;refine bd [0, 1, 2, 3, 4, 5, 6] bJ kR ?_;replace hw := hw.drawn (w.drawn + 1);refine lD aA hw ?_;refine z2 ?_;refine lD aZ hw ?_;refine z1 ?_;refine lD ag hw ?_;refine al rfl zB rfl (AX (mk := mk) (hw.b [iE m.q V.po]) aW Sz) kR fun w v12 hv => ?_;have hv := hv.resolve_left (fun h => h.1 Hm);obtain ⟨-, -, rfl, hw⟩ := hv;refine z4 ?_;refine lD gm hw ?_;refine al rfl jC rfl (jW hw) rfl fun w S8 hv => ?_;obtain ⟨b1, rfl, hw⟩ := hv;refine z2 ?_;obtain ⟨V1, hV1⟩ : ∃ V1 : Va, V1 = { V with po := V.po.JO (mk - V.po.pf).toNat } := ⟨_, rfl⟩;have hfV : YT V1 { m with on := m.on } := by rw [hV1]; exact ⟨hf.on, hf.Nq, hf.sm⟩
 have hlw : (ws.map oB).length = ws.length := bX ..;have hz := hw.b [ah b2 _ _, ah vq _ _, bH _ _, oy _, iE _ _, ah b1 _ _, ah b3 _ _];clear hw;have yj : YT (q6 V1 (ws.map oB) 0) { m with on := m.on } := by
  have : q6 V1 (ws.map oB) 0 = V1 := by unfold q6; rw [Ra, LD]; rfl
  rw [this]; exact hfV
 have hw : an G (bkB vq b2 (q6 V1 (ws.map oB) 0) m :: ah b1 _ 282 :: ah b3 _ 284 :: L) w := KK yj (by
  have : q6 V1 (ws.map oB) 0 = V1 := by unfold q6; rw [Ra, LD]; rfl
  rw [this, hV1]; exact hz)
 refine qI (e₀ := [(2, pQ b2)]) (fun k => bkB vq b2 (q6 V1 (ws.map oB) k) m) (fun _ => False) [] rfl jg rfl sG rfl hw (fun k args M h => by obtain ⟨x, _, rfl⟩ := h; rfl) (Dv (l := ws) (kw.of sF) nM) ?_ ?_ ?_ ?_
 ·
  clear hw;intro l D1 o k args M w hk oJ hw;obtain ⟨x, hx, rfl⟩ := oJ;obtain ⟨on, WY, hw⟩ := Qk hw;have Kb := Ff hw (m := m.om) (kv := jP on) pK;have me := Jc x (gl hx);have hxp : (ws.map oB)[(ws.map oB).length - 1 - k]? = some (oB x) := by rw [hlw, dg, hx]; rfl
  have jB := O3 (V := V1) (by rw [hlw]; exact hk) hxp;refine z1 ?_;refine aF rfl K6 hw rfl fun w b5 hw => ?_;refine aT (cs := ri x) (l' := ri x) rfl tV rfl rfl vD rfl (S4 me hf.sm hw pK) hw pK (by simp [ri, bT.cells]) rfl rfl fun w hw => ?_;refine aC ?_;refine ⟨_, hw.pick (A := pt l o) pK, fun o' w hw => ?_⟩;refine z4 ?_;refine lD (v := .bool x.2.2) bM hw ?_;refine aC ?_;refine di rfl (fun h1 => ?_) fun h1 => ?_
  ·
   refine bd [0, 1, 2, 3, 4, 5, 6, 7, 8] bJ kR ?_;replace hw := hw.drawn (w.drawn + 1);refine lD aA hw ?_;refine z2 ?_;refine lD bV hw ?_;refine z1 ?_;refine lD (v := iQ x.1) ag hw ?_;refine z1 ?_;refine bt rfl rfl (ar.tL (cs := x.2.1.cells) ae hw pK rfl rfl) ?_;refine Ld rfl tV cJ cP rfl rfl rfl hw pK kR fun w hw => ?_;refine aC ?_;obtain ⟨CW, he1, RX⟩ := PH (on := on) (n := x.1) (p := x.2.1);rw [<-he1] at hw;have hz := (hw.b [ah b5 _ _, ah b2 _ _, ah vq _ _, bH _ _, oy _, iE _ _]).tail;refine KK (on := CW) ⟨?_, ?_, hf.sm⟩ (by rw [jB]; exact hz)
   ·intro n;rw [jB]
    show (w5 CW n).map bT.pg = xo (q6 V1 (ws.map oB) k).on x.1 (oB x).2 n
    rw [RX]; unfold xo oB;split
    ·first | rfl | (rw [h1]; rfl) | (rw [ao h1]; rfl)
    exact WY.on n
   intro n q hq;have hq : w5 CW n = some q := hq;rw [RX] at hq;split at hq
   ·simp at hq; subst hq; exact me.1 h1
   exact WY.Nq n q hq
  refine bd [0, 1, 2, 3, 4, 5, 6] bJ kR ?_;replace hw := hw.drawn (w.drawn + 1);refine lD aA hw ?_;refine z2 ?_;refine lD bV hw ?_;refine z1 ?_;refine lD (v := iQ x.1) ag hw ?_;refine S1 rfl tV rfl cJ cP rfl rfl hw pK kR fun w hw => ?_;refine aC ?_;obtain ⟨CW, he1, RX⟩ := PJ Kb (n := x.1);rw [<-he1] at hw;have hz := (hw.b [ah b5 _ _, ah b2 _ _, ah vq _ _, bH _ _, oy _, iE _ _]).tail;refine KK (on := CW) ⟨?_, ?_, hf.sm⟩ (by rw [jB]; exact hz)
  ·intro n;rw [jB]
   show (w5 CW n).map bT.pg = xo (q6 V1 (ws.map oB) k).on x.1 (oB x).2 n
   rw [RX]; unfold xo oB;split
   ·simp [h1]
   exact WY.on n
  intro n q hq;have hq : w5 CW n = some q := hq;rw [RX] at hq;split at hq
  ·cases hq
  exact WY.Nq n q hq
 ·
  clear hw;intro D1 w hw;obtain ⟨on, WY, hw⟩ := Qk hw;have Mp : q6 V1 (ws.map oB) ws.length = V.back mk (ws.map oB) := by unfold q6; rw [hlw, Nat.sub_self, NX, hV1]; rfl
  rw [Mp] at WY hw;have hz := (hw.b [ah b2 _ _, dG D1, ah b1 _ _, ah b3 _ _]);refine bB rfl ?_;refine gz hw pK fun w hw => ?_;exact BT rfl ⟨rfl, on, WY, by
 have hz := (hw.b [ah b2 _ _, ah b1 _ _, ah b3 _ _]).tail.tail.tail;exact hz⟩
 ·
  clear hw; intro D w hw; exact (gC hw).elim fun _ h => h.1.elim
 intro id A hA; cases hA
end
def Va.pop (V : Va) : Va := match V.va.getLast? with
 | some a => { V.back a.1 a.2 with va := V.va.dropLast }
 | none => V
def Va.popN : Nat -> Va -> Va
 | 0, V => V
 | k + 1, V => V.pop.popN k
structure Va.Nl (V : Va) : Prop where
 po : V.po.Ok
 pf : 0 <= V.po.pf
 vf : 0 <= V.vf
 on : ∀ n p, V.on n = some p -> cM p = 0
 th : ∀ n, V.po.fL n ≠ 0 -> V.on n ≠ none
 mrk : ∀ a, V.va.getLast? = some a -> V.po.pf <= a.1 /\ a.1 <= V.po.mark
 wl : ∀ a ∈ V.va, a.2.length <= 1000000000000
structure Va.Ok (V : Va) : Prop extends Va.Nl V where
 OD : ∀ k, k <= V.va.length -> (V.popN k).Nl
def Va.sz (V : Va) : Int := V.po.pf + V.po.pa.length + V.vf + V.va.length
def Va.done (V0 : Va) (x : Vw) : Va := { x.v with va := x.v.va ++ [(V0.po.mark, x.was)] }
def Va.mark (V : Va) : Int := V.vf + V.va.length
theorem XX.len {V : Va} {m : QF} (h : XX V m) : m.eW.length = V.va.length := by have := congrArg List.length h.eW; simpa using this
theorem VF.act {x : Vw} {m : VwV} (h : VF x m) (n b : Int) : VF (x.act n b) m := ⟨⟨h.f.on, h.f.Nq, h.f.sm, h.f.eW, h.f.KO⟩, h.ws, h.X6⟩
theorem kg.Yi {V : Va} {x : Vw} (h : kg V x) : V.po.pf <= x.v.po.pf /\ V.po.pf + V.po.pa.length <= x.v.po.mark /\ x.v.po.pf <= V.po.mark := by
 obtain ⟨more, h1, _⟩ := h.pa;unfold Po.mark;rw [h.pf, h1, de]; omega
theorem Va.F9 {V : Va} {x : Vw} (hg : kg V x) : (V.done x).pop = V := by
 have hb := hg.back;have h1 : (V.done x).va.getLast? = some (V.po.mark, x.was) := by unfold Va.done; simp
 unfold Va.pop;rw [h1];simp only;have h2 : (V.done x).va.dropLast = V.va := by unfold Va.done; simp [hg.va]
 rw [h2];have h3 : (V.done x).back V.po.mark x.was = { x.v.back V.po.mark x.was with va := (V.done x).va } := rfl;rw [h3, hb]
theorem Va.Em {V : Va} {x : Vw} (aW : V.Ok) (hg : kg V x) (hb : (V.done x).Nl) : (V.done x).Ok := ⟨hb, fun k hk => by
 cases k with
 | zero => exact hb
 | succ k =>
  show ((V.done x).pop.popN k).Nl
  rw [Va.F9 hg];refine aW.OD k ?_;unfold Va.done at hk;simp only [de, mG] at hk
  rw [hg.va] at hk; omega⟩
theorem S5 {sv : Value} {ws : List D9} {R : List aw} : aG (row 359 7 sv ws.length (ws.map ri).flatten :: R) (g7 7 sv (ws.map ri)) := (g7.row sM (Y9 ws)).head R
section
variable {G : Gh} {L R : List aw} {w : World}
theorem jz {vq : Nat} {V : Va} {fn : Nat} {caps : Array Value} {Q : Int -> Vw -> List aw -> Prop} (hw : an G (cj vq V :: L) w) (aW : V.Ok) (ed : V.sz <= 1000000000000) (Kf : ai prog fn)
  (hq : ∀ w b, an G (tP vq b V.po.mark ⟨V, []⟩ :: L) w -> Calls prog fn (pQ b :: caps.toList).toArray w (bU fun r w' => ∃ e x L', r = iQ e /\ kg V x /\ x.v.po.Ok /\ x.v.sz <= 1000000000000000 /\ x.was.length <= 1000000000000 /\ Q e x L' /\ an G (tP vq b V.po.mark x :: L') w')) :
  Calls prog 113 #[pQ vq, .func (.func fn) #[] caps] w (bU fun r w' => ∃ e x L', r = iQ e /\ kg V x /\ Q e x L' /\ ((e ≠ 0 /\ an G (cj vq V :: L') w') \/ (e = 0 /\ an G (cj vq (V.done x) :: L') w'))) := by
 obtain ⟨m, hf, hw⟩ := iW hw;have Sz : 0 <= V.po.pf /\ V.po.pf + V.po.pa.length <= 1000000000000000 := ⟨aW.pf, by have := aW.vf; unfold Va.sz at ed; omega⟩;refine ad (args := [_, _]) func113 rfl ntmps113 rfl rfl ?_;refine z9 ?_;refine lD aZ hw ?_;refine al rfl lF rfl (MM (hw.b [iE m.q V.po]) Sz) rfl fun w v11 hv => ?_;obtain ⟨rfl, hw⟩ := hv;refine aO (v := .agg #[iQ V.po.mark, nQ]) rfl rfl (fun w => kR) ?_;refine aF rfl K7 hw rfl fun w b5 hw => ?_;refine aT (cs := [iQ V.po.mark, nQ]) (l' := [iQ V.po.mark, nQ]) rfl tV rfl rfl lY rfl (by intro u hu; simp at hu; rcases hu with rfl | rfl <;> rfl) hw pK sM rfl rfl (fun w hw => ?_);have hz := (bI hw 359 7).b [ah b5 _ _, row 359 _ _ _ _, ah vq _ _, bH _ _, oy _, row 284 _ _ _ _, aV (m.eW.map kp), iE _ _];have hw := gw (x := ⟨V, []⟩) (m := ⟨m, nQ, []⟩) ⟨hf, rfl, (fun y hy => by cases hy)⟩ hz;refine z5 ?_;refine fc rfl rfl Kf rfl rfl (hq _ _ hw) rfl fun w Sx hv => ?_;clear hf hw hz;obtain ⟨e, x, L', rfl, hg, me, Mh, hxw, hQ, hw⟩ := hv;obtain ⟨m', hf, hw⟩ := iV hw;have hlen := hf.len;have kO := hg.Yi;have PN : x.v.po.pf + x.v.po.pa.length <= 1000000000000000 /\ m'.m.eW.length <= 1000000000000 /\ 0 <= x.v.po.pf := by
  have h1 := hf.f.len;have h2 := hg.va;have h3 := hg.vf;have h4 := aW.vf;have h5 := aW.pf;rw [h2] at h1;unfold Va.sz at Mh ed
  omega
 refine z7 ?_;refine aE rfl (fun h1 => ?_) fun h1 => ?_
 ·
  refine z3 ?_;refine lA lY hw ?_;refine al rfl nZ rfl (oY (V := x.v) (m := m'.m) (mk := V.po.mark) (ws := m'.ws) (hw.b [ah vq _ _, bH _ _, oy _, iE _ _, row 359 _ _ _ _]) hf.f.g S5 hf.X6 oM me ⟨PN.2.2, PN.1⟩ ⟨kO.2.2, kO.2.1⟩) rfl fun w Sw hv => ?_;obtain ⟨rfl, on, RV, hw⟩ := hv;rw [hf.ws, hg.back] at RV hw;refine z7 ?_;exact aK rfl rfl rfl ⟨e, x, L', rfl, hg, hQ, .inl ⟨h1, gR (m := { m'.m with on := on }) ⟨RV.on, RV.Nq, RV.sm, by rw [<-hg.va]; exact hf.f.eW, hf.f.KO⟩ (by
 have hz := (hw.b [row 359 _ _ _ _, ah b5 _ _, ah vq _ _, bH _ _, oy _, row 284 _ _ _ _, aV (m'.m.eW.map kp), iE _ _]).tail.tail;exact hz)⟩⟩
 have h1 : e = 0 := c6.1 h1;subst h1;obtain ⟨sa, sc, RP⟩ := aP (hw.pick (A := row 359 7 m'.sv _ _) pK);have ack : m'.sv.oneCell' = true := by rw [RP]; rfl
 refine z2 ?_;refine bd [0, 1, 2, 3, 4, 5, 6, 7, 8, 9, 10] bJ kR ?_;replace hw := hw.drawn (w.drawn + 1);refine z4 ?_;refine lD eD hw ?_;refine lA lY hw ?_;refine yN rfl iu sT zP dM rfl rfl rfl hw (fun w YP hw q' hq => ?_) fun w YP hw => ?_
 ·
  have hq := bm (l := [4]) kR hq;simp only [bQ, dz, or_false] at hq;subst hq;exact bx rfl rfl rfl (ar.bL eD hw pK rfl)
 refine fH (m := m'.m.eW.length) (k := 1) (news := [iQ V.po.mark, m'.sv]) rfl iu sT KJ zP rfl rfl hw pK (Rd.jE hw pK) rfl (by intro u hu; simp at hu; rcases hu with rfl | rfl; rfl; exact ack) mL oM kR (fun w v28 hw => ?_);obtain ⟨va, vc, rfl⟩ := aP hw;refine z2 ?_;refine bu (l' := [_, _, _, _]) rfl tV rfl rfl eD rfl hw pK rfl rfl kR fun w hw => ?_;refine z6 ?_;have hz := (hw.b [aV (m'.m.eW.map kp), row 359 _ _ _ _]).gp;have hz := (hz.b [ah YP _ _, ah b5 _ _, ah vq _ _, bH _ _, oy _, row 284 _ _ _ _]).tail.tail;refine aK rfl rfl rfl ⟨0, x, L', rfl, hg, hQ, .inr ⟨rfl, gR (V := V.done x) (m := ⟨m'.m.q, m'.m.om, .slice va (m'.m.eW.length + 1) vc, m'.m.on, m'.m.S, m'.m.eW ++ [(V.po.mark, m'.sv, m'.ws)]⟩) ⟨hf.f.on, hf.f.Nq, hf.f.sm, ?_, ?_⟩ ?_⟩⟩
 ·show (m'.m.eW ++ [(V.po.mark, m'.sv, m'.ws)]).map Ng = x.v.va ++ [(V.po.mark, x.was)]
  rw [kz, hf.f.eW, <-hf.ws]; rfl
 ·intro a ha y hy;rcases gF.1 ha with ha | ha
  ·exact hf.f.KO a ha y hy
  simp at ha; subst ha; exact hf.X6 y hy
 have e1 : ((m'.m.eW ++ [(V.po.mark, m'.sv, m'.ws)]).map CE).flatten = (m'.m.eW.map CE).flatten ++ CE (V.po.mark, m'.sv, m'.ws) := by simp
 have e2 : (m'.m.eW ++ [(V.po.mark, m'.sv, m'.ws)]).map kp = m'.m.eW.map kp ++ [kp (V.po.mark, m'.sv, m'.ws)] := by simp
 unfold vaP;simp only [e1, e2, de, mG];exact hz
theorem hG {vq : Nat} {V : Va} (hw : an G (cj vq V :: L) w) (hvf : 0 <= V.vf /\ V.vf + V.va.length <= 1000000000000000) : Calls prog 87 #[pQ vq] w (bU fun r w' => r = iQ V.mark /\ an G (cj vq V :: L) w') := by
 obtain ⟨m, hf, hw⟩ := iW hw;have hlen := hf.len;obtain ⟨aa, ac, Ek⟩ := aP (hw.pick (A := row 284 2 m.av m.eW.length _) pK);refine ad (args := [_]) func87 rfl ntmps87 rfl rfl ?_;refine z5 ?_;refine bd [0, 1, 2, 3, 4, 5, 6, 7, 8, 9, 10] bJ kR ?_;replace hw := hw.drawn (w.drawn + 1);refine z3 ?_;refine lD (v := iQ V.vf) ag hw ?_;refine z3 ?_;refine bt rfl rfl (ar.bL (v := .slice aa m.eW.length ac) eD hw pK (by rw [<-Ek]; rfl)) ?_;refine eJ rfl kR iu rfl ?_;refine z4 ?_;exact aK rfl rfl rfl ⟨by rw [hlen]; rfl, gR hf hw⟩
end
abbrev Va.own (V : Va) (n : Int) : Prop := V.st n = 3 /\ V.fL n = 1
def Va.Fc (V : Va) (p : Pg) (n : Int) : Vw := ((⟨V, []⟩ : Vw).act n 1).put n (some p)
def Va.make (V : Va) (p : Pg) : Int × Int × Va := if cM p ≠ 0 then (0, cM p, V) else match V.po.low with
 | none => (0, 12, V)
 | some n => (n, 0, V.done (V.Fc p n))
def Va.Y7 (V : Va) (n : Int) (p : Pg) : Vw := (⟨V, []⟩ : Vw).put n (some p)
def Va.write (V : Va) (n : Int) (p : Pg) : Int × Va := if ¬ V.own n then (15, V) else if cM p ≠ 0 then (cM p, V) else (0, V.done (V.Y7 n p))
theorem I3 {P : Po} {n : Int} (h : P.low = some n) : bG P.c n /\ P.st n = 1 /\ ∀ m, P.st m = 1 -> n <= m := by
 rcases An (c := P.c) (l := P.l) with ⟨k, h0, h2, h3, h4⟩ | ⟨h0, _⟩
 ·have : k = n := by have := h0.symm.trans h; simpa using this
  subst this; exact ⟨h2, h3, h4⟩
 rw [show P.low = none from h0] at h; cases h
theorem Mx {P : Po} (aW : P.Ok) {n : Int} (h : P.st n = 1) : P.fL n = 0 := by
 have hc := aW.fL n;have Jd : bG P.c n := by
  unfold Po.st ye at h; split at h
  ·assumption
  cases h
 unfold Po.st at h;rw [zZ Jd] at h
 unfold Po.fL at hc ⊢;rw [xg Jd] at hc ⊢
 unfold Tj at h;split at h
 ·split at h <;> cases h
 omega
structure Wk (V : Va) (k : Nat) (x : Vw) : Prop where
 g : kg V x
 ok : x.v.po.Ok
 pa : x.v.po.pa.length <= V.po.pa.length + k
 was : x.was.length <= k
theorem Wk.mono {V : Va} {k j : Nat} {x : Vw} (h : Wk V k x) (hj : k <= j) : Wk V j x := ⟨h.g, h.ok, by have := h.pa; omega, by have := h.was; omega⟩
theorem Wk.refl {V : Va} (h : V.po.Ok) : Wk V 0 ⟨V, []⟩ := ⟨kg.refl V, h, g8 _, g8 _⟩
theorem Wk.put {V : Va} {k : Nat} {x : Vw} (h : Wk V k x) (n : Int) (p : Option Pg) : Wk V (k + 1) (x.put n p) := ⟨h.g.put n p, h.ok, by have := h.pa; show x.v.po.pa.length <= _; omega, by have := h.was; simp only [Vw.put, de, mG]; omega⟩
theorem Wk.free {V : Va} {k : Nat} {x : Vw} (h : Wk V k x) (n : Int) : Wk V (k + 1) (x.free n) := by
 unfold Vw.free; split
 ·exact h.put n none
 exact h.mono oM
theorem Wk.act {V : Va} {k : Nat} {x : Vw} (h : Wk V k x) {n b : Int} (hn : bG x.v.po.c n) (hb : b = 1 \/ b = -1) (hc : 0 <= x.v.fL n + b /\ x.v.fL n + b <= x.v.po.refs) : Wk V (k + 1) (x.act n b) := ⟨h.g.act hn, h.ok.act hn hb hc, by have := h.pa; simp only [Vw.act, Po.act, de, mG]; omega, by have := h.was; show x.was.length <= _; omega⟩
theorem Wk.sz {V : Va} {k : Nat} {x : Vw} (h : Wk V k x) : x.v.sz <= V.sz + k /\ (V.done x).sz <= V.sz + k + 1 := by
 have h1 := h.pa; have h2 := h.g.va; have h3 := h.g.vf; have h4 := h.g.pf;unfold Va.done Va.sz;simp only [de, mG];rw [h2, h3, h4];omega
structure Wt (x : Vw) : Prop where
 ck : ∀ n p, x.v.on n = some p -> cM p = 0
 th : ∀ n, x.v.po.fL n ≠ 0 -> x.v.on n ≠ none
theorem Wt.refl {V : Va} (h : V.Nl) : Wt ⟨V, []⟩ := ⟨h.on, h.th⟩
theorem Wk.base {V : Va} {k : Nat} {x : Vw} (aW : V.Ok) (h : Wk V k x) (ht : Wt x) (hk : k <= 1000000000000) : (V.done x).Nl :=
 ⟨h.ok, by show 0 <= x.v.po.pf; rw [h.g.pf]; exact aW.pf, by show 0 <= x.v.vf; rw [h.g.vf]; exact aW.vf, ht.ck, ht.th, fun a ha => by
  have h1 : (V.done x).va.getLast? = some (V.po.mark, x.was) := by unfold Va.done; simp
  rw [h1] at ha; cases ha;have := h.g.Yi;exact ⟨this.2.2, this.2.1⟩, fun a ha => by
  have ha : a ∈ x.v.va ++ [(V.po.mark, x.was)] := ha;rcases gF.1 ha with ha | ha
  ·rw [h.g.va] at ha; exact aW.wl a ha
  ·simp at ha; subst ha; have := h.was; show x.was.length <= _; omega⟩
theorem Wk.Em {V : Va} {k : Nat} {x : Vw} (aW : V.Ok) (h : Wk V k x) (ht : Wt x) (hk : k <= 1000000000000) : (V.done x).Ok := Va.Em aW h.g (h.base aW ht hk)
theorem UY {c : List Int} {n b : Int} (h : bG c n) (m : Int) : fS (dL c n b) m = if m = n then fS c m + b else fS c m := by
 by_cases hm : bG c m
 ·rw [xg (fY.2 hm), xg hm, pF h]
  by_cases e : m = n
  ·rw [ao (by rw [e]), ao e]
  rw [aj (by unfold bG at h hm; omega), aj e]
 have e : ¬ m = n := fun e => hm (by rw [e]; exact h)
 rw [aj e];unfold fS; rw [aj hm, aj (fun h => hm (fY.1 h))]
theorem QE {x : Vw} {n b : Int} (h : bG x.v.po.c n) (m : Int) : (x.act n b).v.po.fL m = if m = n then x.v.po.fL m + b else x.v.po.fL m := UY h m
theorem Wt.act {x : Vw} (h : Wt x) {n b : Int} (hn : bG x.v.po.c n) (hc : x.v.po.fL n ≠ 0) : Wt (x.act n b) := ⟨h.ck, fun m hm => by
 rw [QE hn] at hm
 by_cases e : m = n
 ·subst e; exact h.th m hc
 ·rw [aj e] at hm; exact h.th m hm⟩
theorem Wt.ab2 {x : Vw} (h : Wt x) (n : Int) {p : Pg} (hp : cM p = 0) : Wt (x.put n (some p)) := ⟨fun k q hq => by
  have hq : xo x.v.on n (some p) k = some q := hq;unfold xo at hq;split at hq
  ·cases hq; exact hp
  ·exact h.ck k q hq, fun k hk => by
  show xo x.v.on n (some p) k ≠ none
  unfold xo;split
  ·simp
  ·exact h.th k hk⟩
theorem vB {V : Va} {p : Pg} {n : Int} (aW : V.Ok) (h : V.po.low = some n) : Wk V 2 (V.Fc p n) := by
 obtain ⟨h1, h2, _⟩ := I3 h;have h3 := Mx aW.po h2;have hr := aW.po.refs;exact ((Wk.refl aW.po).act h1 (.inl rfl) (by show 0 <= V.po.fL n + 1 /\ V.po.fL n + 1 <= V.po.refs; omega)).put n (some p)
theorem Oc {V : Va} {p : Pg} {n : Int} (aW : V.Ok) (h : V.po.low = some n) (hp : cM p = 0) : Wt (V.Fc p n) := ⟨fun k q hq => by
  have hq : xo V.on n (some p) k = some q := hq;unfold xo at hq;split at hq
  ·cases hq; exact hp
  ·exact aW.on k q hq, fun k hk => by
  have hk : (((⟨V, []⟩ : Vw).act n 1).v.po.fL k) ≠ 0 := hk;rw [QE (I3 h).1] at hk
  show xo V.on n (some p) k ≠ none
  unfold xo;split
  ·simp
  ·rename_i e;rw [aj e] at hk; exact aW.th k hk⟩
theorem Va.Wv {V : Va} {p : Pg} (aW : V.Ok) : (V.make p).2.2.Ok := by
 unfold Va.make
 by_cases hc : cM p = 0
 ·rw [aj (fun h => h hc)];cases hl : V.po.low with
  | none => exact aW
  | some n => exact (vB aW hl).Em aW (Oc aW hl hc) dM
 rw [ao hc]; exact aW
theorem Va.Wu {V : Va} {p : Pg} : (V.make p).2.2.sz <= V.sz + 2 := by
 unfold Va.make;split
 ·show V.sz <= _; omega
 split
 ·show V.sz <= _; omega
 simp only [Va.sz, Va.done, Va.Fc, Vw.act, Vw.put, Po.act, de, mG];omega
theorem Y6 {V : Va} {n : Int} {p : Pg} (aW : V.Ok) : Wk V 1 (V.Y7 n p) := (Wk.refl aW.po).put n (some p)
section
variable {G : Gh} {L R : List aw} {w : World}
theorem AZ {q : Nat} {P : Po} (hw : an G (iE q P :: L) w) (aW : P.Ok) (ed : P.pa.length <= 10000000000000) :
  Calls prog 250 #[pQ q] w (bU fun r w' => ∃ n er P', r = .tuple #[iQ n, iQ er] /\ ((P.low = none /\ n = 0 /\ er = 12 /\ P' = P) \/ (P.low = some n /\ er = 0 /\ P' = P.act n 1)) /\ an G (iE q P' :: L) w') :=
 jL (zp hw aW ed) fun v w' hv => by
  rcases hv with ⟨h1, h2, h3⟩ | ⟨n, h1, h2, h3⟩
  ·exact ⟨0, 12, P, h2, .inl ⟨h1, rfl, rfl, rfl⟩, h3⟩
  exact ⟨n, 0, _, h2, .inr ⟨h1, rfl, rfl⟩, h3⟩
theorem ux {vq b b1 b2 b3 : Nat} {mk z : Int} {V : Va} {p : bT} (hw : an G (tP vq b mk ⟨V, []⟩ :: ah b2 [iQ z] 3 :: ah b1 [pQ vq] 28 :: ah b3 p.cells 104 :: L) w) (hp : p.Ok L) (aW : V.Ok) (ed : V.sz <= 1000000000000) :
  Calls prog 249 #[pQ b, pQ b1, pQ b2, pQ b3] w (bU fun r w' =>
   (V.po.low = none /\ r = iQ 12 /\ an G (tP vq b mk ⟨V, []⟩ :: ah b2 [iQ 0] 3 :: ah b1 [pQ vq] 28 :: ah b3 p.cells 104 :: L) w') ∨
   (∃ n, V.po.low = some n /\ r = iQ 0 /\ an G (tP vq b mk (V.Fc p.pg n) :: ah b2 [iQ n] 3 :: ah b1 [pQ vq] 28 :: ah b3 p.cells 104 :: L) w')) := by
 obtain ⟨m, hf, hw⟩ := iV hw;have kO : V.po.pa.length <= 10000000000000 := by have := aW.pf; have := aW.vf; unfold Va.sz at ed; omega
 refine ad (args := [_, _, _, _]) func249 rfl ntmps249 rfl rfl ?_;refine z7 ?_;refine lD aA hw ?_;refine z2 ?_;refine lD aZ hw ?_;refine al rfl o9 rfl (AZ (P := V.po) (hw.b [iE m.m.q V.po]) aW.po kO) rfl fun w v11 hv => ?_;obtain ⟨n, er, P', rfl, FA, hw⟩ := hv;refine z3 ?_;refine bu rfl tV rfl rfl ag rfl hw pK rfl rfl rfl fun w hw => ?_;refine z7 ?_;refine aE rfl (fun h1 => ?_) fun h1 => ?_
 ·
  subst h1;obtain ⟨Jf, -, rfl⟩ := FA.resolve_left (fun h => by cases h.2.2.1);have hz := hw.b [ah b _ _, row 359 _ _ _ _, ah vq _ _, bH _ _, oy _, row 284 _ _ _ _, aV (m.m.eW.map kp), iE _ _, ah b2 _ _, ah b1 _ _, ah b3 _ _];clear hw;have hw := gw (x := (⟨V, []⟩ : Vw).act n 1) (m := m) (hf.act n 1) hz;refine bd [0, 1, 2, 3, 4, 5] bJ kR ?_;replace hw := hw.drawn (w.drawn + 1);refine lD aA hw ?_;refine z1 ?_;refine lD ag hw ?_;refine lA ae hw ?_;refine dJ rfl iq rfl (je (p := p) hw (hp.of sF)) (fun w v20 hv q' hq => ?_) fun w v20 hv => ?_
  ·
   obtain ⟨p', rfl, Dy, gG, hw⟩ := hv;have hq := bm (l := [2, 0]) kR hq;simp only [bQ, dz, or_false] at hq;rcases hq with rfl | rfl
   ·exact bx rfl rfl rfl (ar.bL ag hw pK rfl)
   exact bx rfl rfl rfl (ar.bL aA hw pK rfl)
  obtain ⟨p', rfl, Dy, gG, hw⟩ := hv;refine al rfl kT rfl (lz (p := p') (n := n) (hw.b [tP vq b _ _, cB p']) gG (dy _)) kR fun w Zc hv => ?_;obtain ⟨rfl, hw⟩ := hv;refine z7 ?_;exact aK rfl rfl rfl (.inr ⟨n, Jf, rfl, by rw [Dy] at hw; have hz := hw.b [tP vq b _ _, ah b2 _ _, ah b1 _ _, ah b3 _ _]; exact hz⟩)
 refine z7 ?_;exact aK rfl rfl rfl (.inl (by
 obtain ⟨h0, rfl, rfl, rfl⟩ := FA.resolve_right (fun h => h1 h.2.1);exact ⟨h0, rfl, by
  have hz := hw.b [ah b _ _, row 359 _ _ _ _, ah vq _ _, bH _ _, oy _, row 284 _ _ _ _, aV (m.m.eW.map kp), iE _ _, ah b2 _ _, ah b1 _ _, ah b3 _ _];exact gw hf hz⟩))
theorem hJ {vq : Nat} {V : Va} {p : bT} (hw : an G (cj vq V :: L) w) (hp : p.Ok L) (aW : V.Ok) (ed : V.sz <= 1000000000000) :
  Calls prog 164 #[pQ vq, gQ p.cells] w (bU fun r w' => r = .tuple #[iQ (V.make p.pg).1, iQ (V.make p.pg).2.1] /\ an G (cj vq (V.make p.pg).2.2 :: L) w') := by
 refine ad (args := [_, _]) func164 rfl ntmps164 rfl rfl ?_;refine z2 ?_;refine a9 rfl rfl rfl hw rfl fun w b2 hw => ?_;refine a9 rfl rfl rfl hw rfl fun w b3 hw => ?_;refine z6 ?_;refine lA ae hw ?_;refine al rfl j5 rfl (k3 (p := p) hw (hp.of sF)) rfl fun w v10 hv => ?_;obtain ⟨rfl, hw⟩ := hv;refine z7 ?_;refine aE rfl (fun h1 => ?_) fun h1 => ?_
 ·
  refine z7 ?_;exact cz rfl rfl rfl rfl (by
 have e : V.make p.pg = (0, cM p.pg, V) := by unfold Va.make; rw [ao h1]
 rw [e];exact ⟨rfl, (hw.b [ah b3 _ _, ah b2 _ _]).tail.tail⟩)
 refine z3 ?_;refine aF rfl Es hw rfl fun w b7 hw => ?_;refine bu (l' := [iQ 0]) rfl tV rfl rfl ag rfl hw pK rfl rfl rfl fun w hw => ?_;refine z3 ?_;refine lD aA hw ?_;refine gP (v1 := #[]) (v2 := #[pQ b2, pQ b7, pQ b3]) rfl (by intro z hz; simp at hz; rcases hz with rfl | rfl | rfl <;> exact ⟨_, rfl⟩) sM (by simp only [jM, cH, gE]; rfl) ?_;refine al rfl iL rfl (jz (fn := 249) (caps := #[pQ b2, pQ b7, pQ b3]) (Q := fun e x L' => (V.po.low = none /\ e = 12 /\ L' = ah b7 [iQ 0] 3 :: ah b2 [pQ vq] 28 :: ah b3 p.cells 104 :: L) \/ (∃ n, V.po.low = some n /\ e = 0 /\ x = V.Fc p.pg n /\ L' = ah b7 [iQ n] 3 :: ah b2 [pQ vq] 28 :: ah b3 p.cells 104 :: L)) (hw.b [cj vq V, ah b7 _ _, ah b2 _ _, ah b3 _ _]) aW ed tD (fun w b hw => jL (ux (p := p) hw hp aW ed) (fun r w' h => by
 rcases h with ⟨h2, rfl, h4⟩ | ⟨n, h2, rfl, h4⟩
 ·exact ⟨12, ⟨V, []⟩, _, rfl, kg.refl V, aW.po, by show V.sz <= _; omega, dy _, .inl ⟨h2, rfl, rfl⟩, h4⟩
 ·exact ⟨0, V.Fc p.pg n, _, rfl, (vB aW h2).g, (vB aW h2).ok, by
   simp only [Va.sz, Va.Fc, Vw.act, Vw.put, Po.act, de, mG] at ed ⊢;omega, by simp [Va.Fc, Vw.act, Vw.put], .inr ⟨n, h2, rfl, rfl, rfl⟩, h4⟩))) rfl (fun w v16 hv => ?_)
 obtain ⟨er, x, L', rfl, -, hQ, gn⟩ := hv;have h1 : cM p.pg = 0 := c6.1 h1;obtain ⟨n, Hm, hw⟩ : ∃ n, V.make p.pg = (n, er, (V.make p.pg).2.2) /\ an G (cj vq (V.make p.pg).2.2 :: ah b7 [iQ n] 3 :: ah b2 [pQ vq] 28 :: ah b3 p.cells 104 :: L) w := by
  rcases hQ with ⟨h2, rfl, rfl⟩ | ⟨n, h2, rfl, rfl, rfl⟩
  ·have e : V.make p.pg = (0, 12, V) := by unfold Va.make; rw [aj (fun h => h h1), h2]
   rw [e];exact ⟨0, rfl, (gn.resolve_right (fun h => by cases h.1)).2⟩
  have e : V.make p.pg = (n, 0, V.done (V.Fc p.pg n)) := by unfold Va.make; rw [aj (fun h => h h1), h2]
  rw [e];exact ⟨n, rfl, (gn.resolve_left (fun h => h.1 rfl)).2⟩
 refine z4 ?_;refine lD ag hw ?_;refine z5 ?_;exact cz rfl rfl rfl rfl (by
 rw [Hm];exact ⟨rfl, (hw.b [ah b7 _ _, ah b3 _ _, ah b2 _ _]).tail.tail.tail⟩)
theorem p9 {vq : Nat} {V : Va} {n : Int} (hw : an G (cj vq V :: L) w) (aW : V.Ok) :
  Calls prog 254 #[pQ vq, iQ n] w (bU fun r w' => r = .bool (decide (V.own n)) /\ an G (cj vq V :: L) w') := by
 obtain ⟨m, hf, hw⟩ := iW hw;refine ad (args := [_, _]) func254 rfl ntmps254 rfl rfl ?_;refine z9 ?_;refine lD aZ hw ?_;refine z1 ?_;refine al rfl fT rfl (AY (n := n) (hw.b [iE m.q V.po]) aW.po) rfl fun w v10 hv => ?_;obtain ⟨rfl, hw⟩ := hv;refine z2 ?_;refine zU (l1 := [8, 9, 10, 11, 12, 13, 14, 15]) (l2 := [16]) rfl (d := 20) (V.own n) (fun w => an G (iE m.q V.po :: ah vq (Za m.q m.om m.av V.vf) 38 :: bH m.om (jP m.on) :: oy m.S :: row 284 2 m.av m.eW.length (m.eW.map CE).flatten :: aV (m.eW.map kp) :: L) w) rfl ?_ ?_
 ·
  refine ay (d := 12) rfl (fun h1 => ?_) fun h1 => ?_
  ·
   refine z1 ?_;refine Bx rfl rfl ?_;refine z1 ?_;refine lD aZ hw ?_;refine z1 ?_;refine al rfl dx rfl (kD (n := n) (hw.b [iE m.q V.po]) aW.po) rfl fun w ED hv => ?_;obtain ⟨rfl, hw⟩ := hv;refine z3 ?_;refine ⟨hw, congrArg some (congrArg Value.bool ?_)⟩
   first | exact cd.2 ⟨fun h => ⟨h1, h⟩, fun h => h.2⟩ | exact (decide_eq_false (fun h => h1 h.1)).symm
  refine z9 ?_;refine ⟨hw, congrArg some (congrArg Value.bool ?_)⟩
  first | exact cd.2 ⟨fun h => ⟨h1, h⟩, fun h => h.2⟩ | exact (decide_eq_false (fun h => h1 h.1)).symm
 clear hw; intro w hw;refine z3 ?_;exact aK rfl rfl rfl ⟨rfl, gR hf (hw.b [ah vq _ _, bH _ _, oy _, row 284 _ _ _ _, aV (m.eW.map kp), iE _ _])⟩
theorem tn {vq b b1 b2 b3 : Nat} {mk n : Int} {V : Va} {p : bT} (hw : an G (tP vq b mk ⟨V, []⟩ :: ah b1 [pQ vq] 28 :: ah b2 [iQ n] 3 :: ah b3 p.cells 104 :: L) w) (hp : p.Ok L) :
  Calls prog 255 #[pQ b, pQ b1, pQ b2, pQ b3] w (bU fun r w' =>
   r = iQ 0 /\ an G (tP vq b mk (V.Y7 n p.pg) :: ah b1 [pQ vq] 28 :: ah b2 [iQ n] 3 :: ah b3 p.cells 104 :: L) w') := by
 refine ad (args := [_, _, _, _]) func255 rfl ntmps255 rfl rfl ?_;refine z5 ?_;refine bd [0, 1, 2, 3, 4, 5] bJ kR ?_;replace hw := hw.drawn (w.drawn + 1);refine lD aA hw ?_;refine z1 ?_;refine lD ag hw ?_;refine lA ae hw ?_;refine dJ rfl iq rfl (je (p := p) hw (hp.of sF)) (fun w v10 hv q' hq => ?_) fun w v10 hv => ?_
 ·
  obtain ⟨p', rfl, Dy, gG, hw⟩ := hv;have hq := bm (l := [2, 0]) kR hq;simp only [bQ, dz, or_false] at hq;rcases hq with rfl | rfl
  ·exact bx rfl rfl rfl (ar.bL ag hw pK rfl)
  exact bx rfl rfl rfl (ar.bL aA hw pK rfl)
 obtain ⟨p', rfl, Dy, gG, hw⟩ := hv;refine al rfl kT rfl (lz (p := p') (n := n) (hw.b [tP vq b _ _, cB p']) gG (dy _)) kR fun w v11 hv => ?_;obtain ⟨rfl, hw⟩ := hv;refine z6 ?_;exact aK rfl rfl rfl ⟨rfl, by rw [Dy] at hw; have hz := hw.b [tP vq b _ _, ah b1 _ _, ah b2 _ _, ah b3 _ _]; exact hz⟩
theorem gW {vq : Nat} {V : Va} {n : Int} {p : bT} (hw : an G (cj vq V :: L) w) (hp : p.Ok L) (aW : V.Ok) (ed : V.sz <= 1000000000000) :
  Calls prog 166 #[pQ vq, iQ n, gQ p.cells] w (bU fun r w' => r = iQ (V.write n p.pg).1 /\ an G (cj vq (V.write n p.pg).2 :: L) w') := by
 refine ad (args := [_, _, _]) func166 rfl ntmps166 rfl rfl ?_;refine z2 ?_;refine a9 rfl rfl rfl hw rfl fun w b3 hw => ?_;refine a9 rfl rfl rfl hw rfl fun w b4 hw => ?_;refine a9 rfl rfl rfl hw rfl fun w b5 hw => ?_;refine z5 ?_;refine lD aA hw ?_;refine lD ag hw ?_;refine al rfl o6 rfl (p9 (n := n) (hw.b [cj vq V]) aW) rfl fun w v10 hv => ?_;obtain ⟨rfl, hw⟩ := hv;refine fo rfl rfl ?_;refine aC ?_;refine aE rfl (fun h1 => ?_) fun h1 => ?_
 ·
  have zM : ¬ V.own n := by simpa using h1
  refine z5 ?_;exact aK rfl rfl rfl (by
 have e : V.write n p.pg = (15, V) := by unfold Va.write; rw [ao zM]
 rw [e];exact ⟨rfl, (hw.b [ah b5 _ _, ah b4 _ _, ah b3 _ _]).tail.tail.tail⟩)
 have zM : V.own n := by simpa using h1
 refine z4 ?_;refine lA ae hw ?_;refine al rfl j5 rfl (k3 (p := p) hw (hp.of sF)) rfl fun w NL hv => ?_;obtain ⟨rfl, hw⟩ := hv;refine z7 ?_;refine aE rfl (fun h2 => ?_) fun h2 => ?_
 ·
  refine z6 ?_;exact aK rfl rfl rfl (by
 have e : V.write n p.pg = (cM p.pg, V) := by unfold Va.write; rw [aj (fun h => h zM), ao h2]
 rw [e];exact ⟨rfl, (hw.b [ah b5 _ _, ah b4 _ _, ah b3 _ _]).tail.tail.tail⟩)
 refine z3 ?_;refine lD aA hw ?_;refine gP (v1 := #[]) (v2 := #[pQ b3, pQ b4, pQ b5]) rfl (by intro z hz; simp at hz; rcases hz with rfl | rfl | rfl <;> exact ⟨_, rfl⟩) sM (by simp only [jM, cH, gE]; rfl) ?_;refine al rfl iL rfl (jz (fn := 255) (caps := #[pQ b3, pQ b4, pQ b5]) (Q := fun e x L' => e = 0 /\ x = V.Y7 n p.pg /\ L' = ah b3 [pQ vq] 28 :: ah b4 [iQ n] 3 :: ah b5 p.cells 104 :: L) (hw.b [cj vq V, ah b3 _ _, ah b4 _ _, ah b5 _ _]) aW ed sw (fun w b hw => jL (tn (p := p) hw hp) (fun r w' h => ⟨0, V.Y7 n p.pg, _, h.1, (kg.refl V).put n _, aW.po, by show V.sz <= _; omega, by simp [Va.Y7, Vw.put], ⟨rfl, rfl, rfl⟩, h.2⟩))) rfl (fun w Sw hv => ?_);obtain ⟨er, x, L', rfl, -, ⟨rfl, rfl, rfl⟩, gn⟩ := hv;have hw := (gn.resolve_left (fun h => h.1 rfl)).2;have h2 : cM p.pg = 0 := c6.1 h2;refine z3 ?_;exact aK rfl rfl rfl (by
 have e : V.write n p.pg = (0, V.done (V.Y7 n p.pg)) := by unfold Va.write; rw [aj (fun h => h zM), aj (fun h => h h2)]
 rw [e];exact ⟨rfl, (hw.b [ah b5 _ _, ah b4 _ _, ah b3 _ _]).tail.tail.tail⟩)
end
theorem N9 {L : List aw} : eh.Ok L := ⟨⟨fun g w _ => .inl ⟨none, rfl, (fun x h => by cases h), rfl⟩, (fun x hx => by cases hx), by decide⟩, fun g w _ => .inl ⟨⟨none, rfl⟩, rfl⟩, by unfold bP; decide⟩
theorem vH {p : Pg} (h : cM p = 0) : (cL p).length <= 9 := by
 unfold cM at h;simp only [dF] at h
 have h1 := (ij dM).1 h.1.1;have h2 := (ij dM).1 h.1.2;have h3 : p.items.length <= 8 := by
  unfold kI at h2;rcases Decidable.em (p.kind = 1) with e | e
  ·have := h2.1 e; omega
  rcases Decidable.em (p.kind = 2) with e2 | e2
  ·have := h2.2.1 e2; omega
  have := h2.2.2 e e2; omega
 have h4 := List.length_filterMap_le (fun x : It => if p.kind = 2 \/ (p.kind = 1 /\ x.child ≠ 0) then some x.child else none) p.items;unfold cL;rw [de];have h5 : (if p.kind = 3 /\ p.next ≠ 0 then [p.next] else []).length <= 1 := by split <;> simp
 omega
theorem Va.vH {V : Va} (aW : V.Ok) (n : Int) : (cL (V.pg n)).length <= 9 := by
 unfold Va.pg;cases h : V.on n with
 | none => exact dy _
 | some p => exact X.vH (aW.on n p h)
def Vw.incAll : Vw -> List Int -> Int × Vw
 | x, [] => (0, x)
 | x, k :: r => if x.v.po.At k ≠ 0 then (x.v.po.At k, x) else (x.act k 1).incAll r
def Vw.leave (x : Vw) (n : Int) : Int × Vw := if x.v.fL n = 0 then (15, x.free n) else if x.v.fL n = 1 then (0, (x.act n (-1)).free n) else (x.act n (-1)).incAll (cL ((x.act n (-1)).v.pg n))
theorem BY {P : Po} {n : Int} (h : P.At n = 0) : bG P.c n /\ P.fL n ≠ 0 /\ P.fL n ≠ P.refs := by
 unfold Po.At at h;split at h
 ·cases h
 split at h
 ·cases h
 rename_i h1 h2; exact ⟨jY h1, h1, h2⟩
theorem Wk.inc {V : Va} {k : Nat} {x : Vw} (h : Wk V k x) {n : Int} (he : x.v.po.At n = 0) : Wk V (k + 1) (x.act n 1) := by
 obtain ⟨h1, h2, h3⟩ := BY he;have := h.ok.fL n;exact h.act h1 (.inl rfl) (by unfold Va.fL; omega)
theorem Wk.incAll {V : Va} : ∀ {l : List Int} {k : Nat} {x : Vw}, Wk V k x -> Wk V (k + l.length) (x.incAll l).2
 | [], k, x, h => h
 | n :: l, k, x, h => by
  unfold Vw.incAll;split
  ·exact h.mono oM
  rename_i he;have := (h.inc (c6.1 he)).incAll (l := l);exact this.mono (by simp only [g5]; omega)
theorem Wk.leave {V : Va} {k : Nat} {x : Vw} (h : Wk V k x) (n : Int) (hk : (cL (x.v.pg n)).length <= 9) : Wk V (k + 10) (x.leave n).2 := by
 unfold Vw.leave;have hc := h.ok.fL n;split
 ·exact (h.free n).mono oM
 rename_i h0;have ha := h.act (b := -1) (jY h0) (.inr rfl) (by unfold Va.fL at h0 ⊢; omega);split
 ·exact (ha.free n).mono oM
 have := ha.incAll (l := cL ((x.act n (-1)).v.pg n));exact this.mono (by have e : (x.act n (-1)).v.pg n = x.v.pg n := rfl; rw [e]; omega)
theorem C2 : ∀ (l : List Int) (j : Nat) (x y : Vw), j <= l.length -> x.incAll (l.take j) = (0, y) -> x.incAll l = y.incAll (l.drop j)
 | l, 0, x, y, _, h => by simp only [NW, Vw.incAll, Prod.mk.injEq, true_and] at h; subst h; rfl
 | [], j + 1, x, y, hj, _ => by simp at hj
 | n :: l, j + 1, x, y, hj, h => by
  simp only [LJ, Vw.incAll] at h;split at h
  ·rename_i he; exact absurd (congrArg Prod.fst h) he
  rename_i he;have := C2 l j _ y (by simpa using hj) h;simp only [JY];rw [<-this]
  conv => lhs; unfold Vw.incAll
  rw [aj he]
theorem C3 : ∀ (l : List Int) (x y : Vw) (k : Int), x.incAll l = (0, y) -> y.v.po.At k = 0 -> x.incAll (l ++ [k]) = (0, y.act k 1)
 | [], x, y, k, h, hk => by
  simp only [Vw.incAll, Prod.mk.injEq, true_and] at h; subst h;simp only [ie, Vw.incAll];rw [aj (fun h => h hk)]
 | n :: l, x, y, k, h, hk => by
  simp only [Vw.incAll] at h;split at h
  ·rename_i he; exact absurd (congrArg Prod.fst h) he
  rename_i he;simp only [iC, Vw.incAll];rw [aj he];exact C3 l _ y k h hk
def Va.eg (V : Va) (n : Int) : Int × Int × Va := if V.fL n = 0 then (0, 15, V) else if V.own n then (n, 0, V) else match V.po.low with
 | none => (0, 12, V)
 | some m => if ((V.Fc (V.pg n) m).leave n).1 ≠ 0 then (0, ((V.Fc (V.pg n) m).leave n).1, V) else (m, 0, V.done ((V.Fc (V.pg n) m).leave n).2)
theorem Wt.free {x : Vw} (h : Wt x) (aW : x.v.po.Ok) (n : Int) : Wt (x.free n) := by
 unfold Vw.free;split
 ·rename_i hs;refine ⟨fun k q hq => ?_, fun k hk => ?_⟩
  ·have hq : xo x.v.on n none k = some q := hq;unfold xo at hq;split at hq
   ·cases hq
   exact h.ck k q hq
  show xo x.v.on n none k ≠ none
  unfold xo;split
  ·rename_i e;subst e;exact absurd (Mx aW hs) hk
  exact h.th k hk
 exact h
theorem Wt.incAll : ∀ {l : List Int} {x : Vw}, Wt x -> Wt (x.incAll l).2
 | [], x, h => h
 | n :: l, x, h => by
  unfold Vw.incAll;split
  ·exact h
  rename_i he;obtain ⟨h1, h2, _⟩ := BY (c6.1 he);exact (h.act h1 h2).incAll
theorem Wt.leave {x : Vw} (h : Wt x) (aW : x.v.po.Ok) (n : Int) : Wt (x.leave n).2 := by
 unfold Vw.leave;have hc := aW.fL n;split
 ·exact h.free aW n
 rename_i h0;have h0 : ¬ x.v.po.fL n = 0 := h0;have ha := h.act (b := -1) (jY h0) h0;have ho : (x.act n (-1)).v.po.Ok := aW.act (jY h0) (.inr rfl) oM;split
 ·exact ha.free ho n
 exact ha.incAll
section
variable {G : Gh} {L R : List aw} {w : World}
theorem vZ {vq b : Nat} {mk n : Int} {x : Vw} (hw : an G (tP vq b mk x :: L) w) (aW : x.v.po.Ok) (hpa : x.v.po.pa.length <= 1100000000000) (ed : x.was.length <= 1000000000000) (hk : (cL (x.v.pg n)).length <= 9) :
  Calls prog 264 #[pQ vq, pQ b, iQ n] w (bU fun r w' => r = iQ (x.leave n).1 /\ an G (tP vq b mk (x.leave n).2 :: L) w') := by
 obtain ⟨m, hf, hw⟩ := iV hw;obtain ⟨lf, OA⟩ : ∃ z : Int, z = if x.v.po.fL n = 0 then 0 else x.v.po.fL n - 1 := ⟨_, rfl⟩
 obtain ⟨er, Nu⟩ : ∃ z : Int, z = if x.v.po.fL n = 0 then 15 else 0 := ⟨_, rfl⟩
 obtain ⟨x1, Jb⟩ : ∃ z : Vw, z = { x with v := { x.v with po := x.v.po.dec n } } := ⟨_, rfl⟩;have RW : VF x1 m := by rw [Jb]; exact ⟨⟨hf.f.on, hf.f.Nq, hf.f.sm, hf.f.eW, hf.f.KO⟩, hf.ws, hf.X6⟩
 have ZF : x1.v.po.Ok /\ x1.v.po.pa.length <= 1100000000001 := by
  have hc := aW.fL n;rw [Jb]
  show (x.v.po.dec n).Ok /\ (x.v.po.dec n).pa.length <= _
  unfold Po.dec;split
  ·exact ⟨aW, oM⟩
  rename_i h0;exact ⟨aW.act (jY h0) (.inr rfl) oM, by simp only [Po.act, de, mG]; omega⟩
 refine ad (args := [_, _, _]) func264 rfl ntmps264 rfl rfl ?_;refine z9 ?_;refine lD aZ hw ?_;refine z1 ?_;refine al rfl q4 rfl (so (P := x.v.po) (n := n) (hw.b [iE m.m.q x.v.po]) aW oM) rfl fun w ED hv => ?_;rw [<-OA, <-Nu] at hv;obtain ⟨rfl, hw⟩ := hv;have hz := hw.b [iE m.m.q _, ah b _ _, row 359 _ _ _ _, ah vq _ _, bH _ _, oy _, row 284 _ _ _ _, aV (m.m.eW.map kp)];clear hw;have hz := hz.b [ah b _ _, row 359 _ _ _ _, ah vq _ _, bH _ _, oy _, row 284 _ _ _ _, aV (m.m.eW.map kp), iE m.m.q _];have hw : an G (tP vq b mk x1 :: L) w := gw (x := x1) (m := m) RW (by rw [Jb]; exact hz);clear hz;refine yb ?_;refine cu (l1 := [3, 4, 5]) (l2 := []) rfl (d := 26) (er ≠ 0 \/ lf = 0) rfl ?_ ?_
 ·
  refine ay (d := 23) rfl (fun h1 => ?_) fun h1 => ?_
  ·
   refine z4 ?_;refine cQ ?_;exact dC
  refine z4 ?_;refine cQ ?_;exact dC
 refine aC ?_;refine aE rfl (fun h2 => ?_) fun h2 => ?_
 ·
  refine z5 ?_;refine al rfl nX rfl (oW (n := n) hw ZF.1 (by rw [Jb]; exact ed)) rfl (fun w v30 hv => ?_);obtain ⟨rfl, hw⟩ := hv;refine z7 ?_;exact aK rfl rfl rfl (by
 by_cases hc : x.v.po.fL n = 0
 ·have e : x.leave n = (15, x.free n) := by unfold Vw.leave Va.fL; rw [ao hc]
  have e1 : x1 = x := by rw [Jb]; unfold Po.dec; rw [ao hc]
  rw [e, Nu, ao hc];rw [e1] at hw;exact ⟨rfl, hw⟩
 ·have Uz : x.v.po.fL n = 1 := by rw [OA, Nu, aj hc, aj hc] at h2; omega
  have e : x.leave n = (0, (x.act n (-1)).free n) := by unfold Vw.leave Va.fL; rw [aj hc, ao Uz]
  have e1 : x1 = x.act n (-1) := by rw [Jb]; unfold Po.dec; rw [aj hc]; rfl
  rw [e, Nu, aj hc];rw [e1] at hw;exact ⟨rfl, hw⟩)
 have hc : ¬ x.v.po.fL n = 0 := fun h => by rw [Nu, ao h] at h2; exact h2 (.inl dM)
 have Uz : ¬ x.v.po.fL n = 1 := fun h => by rw [OA, aj hc, h] at h2; exact h2 (.inr rfl)
 have e1 : x1 = x.act n (-1) := by rw [Jb]; unfold Po.dec; rw [aj hc]; rfl
 have hle : x.leave n = x1.incAll (cL (x1.v.pg n)) := by unfold Vw.leave Va.fL; rw [aj hc, aj Uz, e1]
 have Vr : (cL (x1.v.pg n)).length <= 9 := by rw [e1]; exact hk
 obtain ⟨m1, C6, hw⟩ := iV hw;obtain ⟨p0, b0, Mj, -, jd, -, hS, hZ, tW⟩ := Ed C6.f n hw (L := Ss vq b mk x1 m1 L) pK;have xe : p0.Ok (Ss vq b mk x1 m1 L) := by
  cases b0 with
  | true => exact vd (hS rfl) (C6.f.sm _ (hS rfl)) pK
  | false => rw [hZ rfl]; exact N9
 refine z7 ?_;refine lD bV hw ?_;refine z1 ?_;refine u0 (v0 := gQ p0.cells) rfl cJ cP jF rfl rfl hw pK Mj ?_;refine al rfl nv rfl (pC (p := p0) hw xe) rfl fun w v38 hv => ?_;rw [tW] at hv;obtain ⟨l, hl⟩ : ∃ l, l = cL (x1.v.pg n) := ⟨_, rfl⟩;rw [<-hl] at hv hle Vr
 obtain ⟨ka, kc, rfl⟩ := aP hv;have s7 : aG [row 3 1 (.slice ka l.length kc) l.length (bg l)] (qx (.slice ka l.length kc) (bg l)) := Pu (by rw [bC]);have hw := gw C6 (hv.b [ah b _ _, row 359 _ _ _ _, ah vq _ _, bH _ _, oy _, row 284 _ _ _ _, aV (m1.m.eW.map kp), iE m1.m.q _, row 3 1 _ _ _]);refine z4 ?_;refine bF (fun m e w => ∃ (j : Nat) (y : Vw), j <= l.length /\ m = l.length - j /\ e = [(0, pQ vq), (38, .slice ka l.length kc), (39, iQ l.length), (40, iQ j)] /\ (x1.incAll (l.take j) = (0, y) /\ y.v.po.Ok /\ y.v.po.pa.length <= 1100000000001 + j) /\ an G (tP vq b mk y :: row 3 1 (.slice ka l.length kc) l.length (bg l) :: L) w)
  (m := l.length) sB
  ⟨0, x1, dy _, rfl, rfl, ⟨rfl, ZF.1, by have := ZF.2; omega⟩, hw⟩ ?_
 rintro m e w ⟨j, y, hj, rfl, rfl, ⟨Ul, hy2, hy3⟩, hw⟩;refine z5 ?_;refine aE rfl (fun h3 => ?_) fun h3 => ?_
 ·
  have Jh : j < l.length := oM;obtain ⟨k, C7⟩ : ∃ k, l[j]? = some k := ⟨_, dm Jh⟩;have OB : (bg l)[j]? = some (iQ k) := by simp only [bg, dg, C7]; rfl
  obtain ⟨bb, oo, rfl⟩ := (((s7.head _).cons _).at hw).nn (by rw [bC]; omega);refine z5 ?_;refine cR rfl bp cm rfl rfl ⟨oM, oM⟩ ?_;refine bt rfl rfl (ar.one ag ((((s7.head _).cons _).at hw).at (by rw [ez]; exact OB))) ?_;obtain ⟨m2, xz, hw⟩ := iV hw;refine z7 ?_;refine lD aZ hw ?_;refine z1 ?_;refine al rfl Bd rfl (Co (P := y.v.po) (n := k) (hw.b [iE m2.m.q y.v.po]) hy2 oM) rfl fun w X8 hv => ?_;obtain ⟨rfl, hw⟩ := hv;have hz := hw.b [iE m2.m.q _, ah b _ _, row 359 _ _ _ _, ah vq _ _, bH _ _, oy _, row 284 _ _ _ _, aV (m2.m.eW.map kp)];have hz := hz.b [ah b _ _, row 359 _ _ _ _, ah vq _ _, bH _ _, oy _, row 284 _ _ _ _, aV (m2.m.eW.map kp), iE m2.m.q _];clear hw;refine z7 ?_;refine aE rfl (fun h4 => ?_) fun h4 => ?_
  ·
   have e2 : y.v.po.inc k = y.v.po := by unfold Po.inc; rw [aj h4]
   rw [e2] at hz;have hw := gw xz hz;refine z6 ?_;exact aK rfl rfl rfl (by
 have h5 := C2 l j x1 y oM Ul;rw [hle, h5, eF C7];unfold Vw.incAll;rw [ao h4];exact ⟨rfl, (hw.b [row 3 _ _ _ _]).tail⟩)
  have h4 : y.v.po.At k = 0 := c6.1 h4;have e2 : y.v.po.inc k = y.v.po.act k 1 := by unfold Po.inc; rw [ao h4]
  rw [e2] at hz;have hw := gw (x := y.act k 1) (xz.act k 1) hz;obtain ⟨hi1, hi2, hi3⟩ := BY h4;have hi4 := hy2.fL k;refine z5 ?_;exact ⟨l.length - (j + 1), oM, [(0, _), (38, _), (39, _), (40, iQ (j + 1 : Nat))], sB, j + 1, y.act k 1, oM, rfl, rfl, ⟨by rw [cC C7]; exact C3 _ _ _ _ Ul h4, hy2.act hi1 (.inl rfl) oM, by simp only [Vw.act, Po.act, de, mG]; omega⟩, hw⟩
 refine z6 ?_;exact aK rfl rfl rfl (by
 rw [oF oM] at Ul;rw [hle, Ul];exact ⟨rfl, (hw.b [row 3 _ _ _ _]).tail⟩)
end
end Go.Proofs.YtjbkgbilbnccnaaGreatDoor.X
