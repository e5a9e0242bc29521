/- The ground and the walks of this claim, part 4: XWithin XLeast XItems XScan XIt XGift XIt2 XPairs XScan2 XLed XLed2 XFsck XFsck2 XFixed XCut1 XCut2 XCut3 XVa8 XVa9 XVa10 XVa11 XVa12 XCut4 XCut5 XCut6 XPut6 XFixed2 XLaw22 XOpen2 XCrc XU XU2 XIface XWire XPanic. -/
import Derived.Test.YtjbkgbilbnccnaaGreatDoorY3
namespace Go.Proofs.YtjbkgbilbnccnaaGreatDoor.X
open _root_.Go.Proofs.Tryz _root_.Go.Proofs.YtjbkgbilbnccnaaGreatDoor.Tryz
set_option linter.unusedVariables false
set_option linter.unusedSimpArgs false
set_option maxRecDepth 20000
set_option maxHeartbeats 8000000
def adl (F : List aw -> Prop) (l : List bO) (k : Nat) (args : List Value) (M : List aw) : Prop := ∃ x, l[l.length - 1 - k]? = some x /\ args = [iQ ((l.length : Int) - 1 - k), gQ x.cells] /\ F M
section
variable {G : Gh} {L R : List aw} {w : World}
theorem kP {a : Option Addr} {n c : Nat} (hw : an G L w) : Calls prog 276 #[.slice a n c] w (bU fun r w' => ∃ b1, r = .func (.func 330) #[] #[pQ b1] /\ an G (ah b1 [.slice a n c] 102 :: L) w') := by
 refine ad (args := [_]) func276 rfl ntmps276 rfl rfl ?_;refine z2 ?_;refine a9 rfl rfl rfl hw rfl fun w b1 hw => ?_;refine z4 ?_;refine gP (v1 := #[]) (v2 := #[pQ b1]) rfl (by intro z hz; simp at hz; subst hz; exact ⟨_, rfl⟩) sM (by simp only [jM, cH, gE]; rfl) ?_;refine z3 ?_;exact aK rfl rfl rfl ⟨b1, rfl, hw⟩
theorem BX {F : List aw -> Prop} {l : List bO} {v : Value} {b1 : Nat} (kl : aG L (g7 4 v (l.map bO.cells))) (nM : l.length <= 10000000000000) (hF : F (ah b1 [v] 102 :: L)) : Bq prog 330 [pQ b1] G (ah b1 [v] 102 :: L) w l.length (adl F l) (ah b1 [v] 102 :: L) := by
 intro lq J Jx w hy hw;obtain ⟨sa, sc, h1, -, -⟩ := ((kl.of sF).at hw).form;rw [bX] at h1;subst h1;refine ad (args := [_, _]) func330 rfl ntmps330 rfl rfl ?_;refine z2 ?_;refine lD az hw ?_;refine z2 ?_;have e0 : (l.length : Int) - 1 = (l.length : Int) - 1 - (0 : Nat) := by simp
 rw [e0];refine z3 ?_;refine bF (fun m e w => ∃ k : Nat, k <= l.length /\ m = l.length - k /\ e = [(0, .func (.yield lq) #[] #[]), (1, pQ b1), (3, iQ ((l.length : Int) - 1 - k))] /\ an G (J k :: ah b1 [.slice sa l.length sc] 102 :: L) w)
  (m := l.length) sB
  ⟨0, dy _, rfl, rfl, hw⟩ ?_
 rintro m e w ⟨k, hk, rfl, rfl, hw⟩;refine z6 ?_;refine aE rfl (fun h1 => ?_) fun h1 => ?_
 ·
  have gK : k < l.length := oM;obtain ⟨x, hx⟩ : ∃ x, l[l.length - 1 - k]? = some x := ⟨_, dm oM⟩;have tU : (l.map bO.cells)[l.length - 1 - k]? = some x.cells := by rw [dg, hx]; rfl
  obtain ⟨bb, oo, rfl⟩ := ((kl.of sF).at hw).nn (by rw [bX]; omega);have hi : ((l.length : Int) - 1 - k).toNat = l.length - 1 - k := oM;refine z7 ?_;refine lD az hw ?_;refine z1 ?_;refine eY rfl aJ bf rfl rfl ⟨oM, oM⟩ ?_;refine bt rfl rfl (ar.many aD rfl (by rw [hi]; exact ((kl.of sF).at hw).at tU)) ?_;refine pk rfl rfl rfl (hy k _ _ w gK ⟨x, hx, rfl, hF⟩ hw) rfl fun w v17 hv => ?_;obtain ⟨bq, rfl, r9, zL⟩ := nD hv;refine jG rfl rfl ?_;refine aC ?_;refine di rfl (fun h2 => ?_) fun h2 => ?_
  ·
   refine rL ?_;exact kC rfl rfl (.inr (zL (by simpa using h2)))
  refine z6 ?_;have hw := r9 (by simpa using h2);refine ⟨l.length - (k + 1), oM, [(0, _), (1, _), (3, iQ ((l.length : Int) - 1 - (k + 1 : Nat)))], ?_, k + 1, oM, rfl, rfl, hw⟩;rw [show ((l.length : Int) - 1 - (k + 1 : Nat)) = (l.length : Int) - 1 - k - 1 by omega];exact sB
 refine z1 ?_;exact kC rfl rfl (.inl (by
 have pA : k = l.length := oM;subst pA; exact hw))
end
def iK (p : Pg) (r : Rg) (i : Nat) : Prop := nO (ga (oG p i) r) (mf (ga (oG p i) r).lo)
instance (p : Pg) (r : Rg) (i : Nat) : Decidable (iK p r i) := by unfold iK; infer_instance
def eN (p : Pg) (r : Rg) (k : Nat) : List Int := ((((List.range p.items.length).reverse).take k).filter fun i => decide (iK p r i)).map fun i => dQ p.items i
theorem JN {p : Pg} {r : Rg} {k : Nat} (hk : k < p.items.length) : eN p r (k + 1) = eN p r k ++ (if iK p r (p.items.length - 1 - k) then [dQ p.items (p.items.length - 1 - k)] else []) := by
 unfold eN;have h : (List.range p.items.length).reverse[k]? = some (p.items.length - 1 - k) := by
  rw [List.getElem?_reverse (by simpa using hk), List.length_range, LI oM]
 rw [cC h, JX, kz]
 by_cases hc : iK p r (p.items.length - 1 - k) <;> simp [hc]
theorem CO (p : Pg) (r : Rg) (k : Nat) : (eN p r k).length <= k := by
 unfold eN;rw [bX];have h1 := N6 (fun i => decide (iK p r i)) ((List.range p.items.length).reverse.take k);have h2 := List.length_take_le k (List.range p.items.length).reverse;omega
abbrev wiJ (b5 b3 b2 : Nat) (r : yI) (p : bT) (A : List Int) : aw := ex fun ov : Value => aV [ah b5 [ov] 22, row 3 1 ov A.length (bg A), ah b3 r.cells 64, ah b2 p.cells 104]
section
variable {G : Gh} {L R : List aw} {w : World}
theorem Ga {p : bT} {r : yI} (hw : an G L w) (hp : p.Ok L) (hr : r.Ok L) (hp8 : p.l.length <= 8) (Z5 : ∀ i, (ga (oG p.pg i) r.rg).lo.length <= 24) : Calls prog 212 #[gQ p.cells, gQ r.cells] w (bU fun u w' => an G (row 3 1 u (eN p.pg r.rg p.l.length).length (bg (eN p.pg r.rg p.l.length)) :: L) w') := by
 obtain ⟨ia, ic, hs, -, -⟩ := (hp.its.sl.at hw).form;rw [bX] at hs;have iv : aG L (g7 4 (.slice ia p.l.length ic) (p.l.map bO.cells)) := by rw [<-hs]; exact hp.its.sl
 have kO : p.pg.items.length = p.l.length := by simp [bT.pg]
 refine ad (args := [_, _]) func212 rfl ntmps212 rfl rfl ?_;refine z2 ?_;refine a9 rfl rfl rfl hw rfl fun w b2 hw => ?_;refine a9 rfl rfl rfl hw rfl fun w b3 hw => ?_;refine z4 ?_;refine aF rfl SJ hw rfl fun w b5 hw => ?_;refine z5 ?_;refine bt rfl rfl (ar.bL (v := .slice ia p.l.length ic) az hw pK (by rw [<-hs]; rfl)) ?_;refine al rfl kE rfl (kP hw) rfl fun w v11 hv => ?_;obtain ⟨b1, rfl, hw⟩ := hv;refine z2 ?_;have hw := bI hw 3 1;have hz := hw.b [ah b5 _ _, row 3 1 (nQ) _ _, ah b3 _ _, ah b2 _ _, ah b1 _ _];clear hw;have hw : an G (wiJ b5 b3 b2 r p (eN p.pg r.rg 0) :: ah b1 [.slice ia p.l.length ic] 102 :: L) w := an.gh (nQ) (an.bz hz);refine qI (e₀ := [(2, pQ b2), (3, pQ b3), (5, pQ b5)]) (fun k => wiJ b5 b3 b2 r p (eN p.pg r.rg k)) (fun _ => False) [] rfl jD rfl sG rfl hw (fun k args M h => by obtain ⟨x, _, rfl, _⟩ := h; rfl) (BX (F := fun M => p.Ok M /\ r.Ok M) (l := p.l) (iv.of sF) oM ⟨hp.of sF, hr.of sF⟩) ?_ ?_ ?_ ?_
 ·
  clear hw;intro l D1 o k args M w hk oJ hw;obtain ⟨x, hx, rfl, hp, hr⟩ := oJ;have iv : aG _ (g7 4 (.slice ia p.l.length ic) (p.l.map bO.cells)) := hs ▸ hp.its.sl;obtain ⟨ov, hw⟩ := hw.fD;have hw := hw.cF;simp only [iC, ie] at hw;obtain ⟨j, hj⟩ : ∃ j, j = p.l.length - 1 - k := ⟨_, rfl⟩;have hjc : (p.l.length : Int) - 1 - k = (j : Int) := oM
  (try unfold sQ at hx); rw [<-hj] at hx
  rw [hjc];have tU : (p.l.map bO.cells)[j]? = some x.cells := by rw [dg, hx]; rfl
  have C4 : p.pg.items[j]? = some x.it := by show (p.l.map bO.it)[_]? = _; rw [dg, hx]; rfl
  have me := hp.its.it x (gl hx);obtain ⟨xa, xc, Bt⟩ := ((me.k.of sF).at hw).form;obtain ⟨xa2, xc2, Nr⟩ := ((me.v.of sF).at hw).form;obtain ⟨ib, io, OE⟩ := ((iv.of sF).at hw).nn (by rw [bX]; omega);have jB := JN (p := p.pg) (r := r.rg) (k := k) oM;rw [kO, <-hj] at jB;have Vk := CO p.pg r.rg k;rw [OE] at hs iv
  refine z5 ?_;refine aF rfl eM hw rfl fun w b7 hw => ?_;refine aT (cs := x.cells) (l' := x.cells) rfl tV rfl rfl aD rfl (by intro u hu; simp [bO.cells, Bt, Nr] at hu; rcases hu with rfl | rfl | rfl | rfl <;> rfl) hw pK (by simp [bO.cells]) rfl rfl (fun w hw => ?_);refine aC ?_;refine ⟨_, hw.pick (A := pt l o) pK, fun o' w hw => ?_⟩;refine z4 ?_;refine bt rfl rfl (ar.bL (v := .slice xa x.it.key.length xc) au hw pK (by rw [<-Bt]; rfl)) ?_;refine aO (v := .agg #[.slice xa x.it.key.length xc, nQ, .bool true]) rfl rfl (fun w => kR) ?_;refine aF rfl lH hw rfl fun w b8 hw => ?_;refine aT (cs := [.slice xa x.it.key.length xc, nQ, .bool true]) (l' := [.slice xa x.it.key.length xc, nQ, .bool true]) rfl tV rfl rfl aY rfl (by intro u hu; simp at hu; rcases hu with rfl | rfl | rfl <;> rfl) hw pK sM rfl rfl (fun w hw => ?_);refine aC ?_;refine pS (fun e w => ∃ ow : yI, e = [(2, pQ b2), (3, pQ b3), (5, pQ b5), (7, pQ b7), (8, pQ b8)] /\ (ow.rg = oG p.pg j /\ ow.Ok M) /\ an G (ah b8 ow.cells 64 :: ah b7 x.cells 198 :: ah b5 [ov] 22 :: row 3 1 ov (eN p.pg r.rg k).length (bg (eN p.pg r.rg k)) :: ah b3 r.cells 64 :: ah b2 p.cells 104 :: pt l o' :: dG D1 :: M) w) ?_ ?_
  ·
   refine z5 ?_;refine bt rfl rfl (ar.bL (v := .slice (some ⟨ib, io, none⟩) p.l.length ic) az hw pK (by rw [<-hs]; rfl)) ?_;refine z3 ?_;refine aE rfl (fun h1 => ?_) fun h1 => ?_
   ·
    obtain ⟨y, hy⟩ : ∃ y, p.l[j + 1]? = some y := ⟨_, dm oM⟩;have Ui : (p.l.map bO.cells)[j + 1]? = some y.cells := by rw [dg, hy]; rfl
    have hyi : p.pg.items[j + 1]? = some y.it := by show (p.l.map bO.it)[_]? = _; rw [dg, hy]; rfl
    have KX := hp.its.it y (gl hy);obtain ⟨ya, yc, WH⟩ := ((KX.k.of sF).at hw).form;refine bd [0, 1, 2, 3, 4, 5, 6, 7, 8, 9, 10] bJ kR ?_;replace hw := hw.drawn (w.drawn + 1);refine z1 ?_;refine bt rfl rfl (ar.bL (v := .slice (some ⟨ib, io, none⟩) p.l.length ic) az hw pK (by rw [<-hs]; rfl)) ?_;refine z2 ?_;refine eY rfl aJ bf rfl rfl ⟨oM, oM⟩ ?_;refine cS rfl dv rfl ?_;refine bt rfl rfl (ar.one (v := .slice ya y.it.key.length yc) au (by rw [<-WH]; exact ((iv.of sF).at hw).cell (j := 0) Ui rfl)) ?_;refine z1 ?_;refine sN (l' := [.slice xa x.it.key.length xc, nQ, .bool false]) rfl tV rfl rfl bM rfl hw pK rfl rfl (fun w hw q' hq => ?_) fun w hw => ?_
    ·
     have hq := bm (l := [6, 1]) kR hq;simp only [bQ, dz, or_false] at hq;rcases hq with rfl | rfl
     ·exact bx rfl rfl rfl (ar.one (v := .slice ya y.it.key.length yc) au (by rw [<-WH]; exact ((iv.of sF).at hw).cell (j := 0) Ui rfl))
     exact bx rfl rfl rfl (ar.bL (v := .slice (some ⟨ib, io, none⟩) p.l.length ic) az hw pK (by rw [<-hs]; rfl))
    refine z1 ?_;refine bu (l' := [.slice xa x.it.key.length xc, .slice ya y.it.key.length yc, .bool false]) rfl tV rfl rfl au rfl hw pK rfl rfl kR fun w hw => ?_;refine aC ?_;have hz := hw.b [ah b8 _ _, ah b7 _ _, ah b5 _ _, row 3 1 ov _ _, ah b3 _ _, ah b2 _ _];exact ⟨[(2, _), (3, _), (5, _), (7, _), (8, _)], sB, ⟨⟨x.it.key, y.it.key, false⟩, .slice xa x.it.key.length xc, .slice ya y.it.key.length yc⟩, rfl, ⟨(IT C4 hyi).symm, ⟨by rw [<-Bt]; exact me.k, by rw [<-WH]; exact KX.k, me.sk, KX.sk⟩⟩, hz⟩
   refine dS ?_;have hz := hw.b [ah b8 _ _, ah b7 _ _, ah b5 _ _, row 3 1 ov _ _, ah b3 _ _, ah b2 _ _];exact ⟨[(2, _), (3, _), (5, _), (7, _), (8, _)], sB, ⟨⟨x.it.key, [], true⟩, .slice xa x.it.key.length xc, nQ⟩, rfl, ⟨(IU C4 oM).symm, ⟨by rw [<-Bt]; exact me.k, Du, me.sk, mW⟩⟩, hz⟩
  clear hw;rintro e w ⟨ow, rfl, ⟨how, Z1⟩, hw⟩;refine z2 ?_;refine lA (l := ow.cells) aY hw ?_;refine lA (l := r.cells) aY hw ?_;refine al rfl yB rfl (AQ (a := ow) (b := r) hw (Z1.of sF) (hr.of sF)) rfl fun w X' hv => ?_;obtain ⟨r', rfl, Ka, hr1, hw⟩ := hv;have B0 := Fe Z1.sl Z1.sh hr.sl hr.sh;rw [<-Ka] at B0;simp only [sW, iC, ie] at hw
  refine al rfl GF rfl (HY (r := r') hw (ES B0.1 B0.2 pK pK) (by rw [Ka, how]; exact Z5 j)) rfl (fun w v35 hv => ?_);obtain ⟨rfl, hw⟩ := hv;have Ho : nO r'.rg (mf r'.rg.lo) ↔ iK p.pg r.rg j := by unfold iK; rw [Ka, how]
  have hcx : dQ p.pg.items j = x.it.child := sV hx;obtain ⟨oa, oc, rfl⟩ := aP (hw.pick (A := row 3 1 ov _ _) pK);refine fo rfl rfl ?_;refine aC ?_;refine aE rfl (fun h2 => ?_) fun h2 => ?_
  ·
   refine z1 ?_;refine lD (v := .slice oa (eN p.pg r.rg k).length oc) dU hw ?_;refine z1 ?_;refine lD (v := iQ x.it.child) ag hw ?_;refine fG (cs := [iQ x.it.child]) rfl bp cm gZ dM rfl rfl rfl hw rfl fun w b40 hw => ?_;refine fH (m := (eN p.pg r.rg k).length) (k := 1) (news := [iQ x.it.child]) rfl bp cm ni gZ rfl rfl hw pK (Rd.jE hw pK) rfl (by intro u hu; simp at hu; subst hu; rfl) mL oM rfl (fun w v41 hw => ?_);obtain ⟨na, nc, rfl⟩ := aP hw;refine bu (l' := [.slice na ((eN p.pg r.rg k).length + 1) nc]) rfl tV rfl rfl dU rfl hw pK rfl rfl rfl fun w hw => ?_;refine aC ?_;have hc : iK p.pg r.rg j := Ho.1 (c6.1 h2);rw [ao hc, hcx] at jB;have hz := (hw.b [ah b40 _ _, row 5 1 r'.lv _ _, row 5 1 r'.hv _ _, ah b8 _ _, ah b7 _ _, ah b5 _ _, row 3 1 (.slice na _ nc) _ _, ah b3 _ _, ah b2 _ _]).tail.tail.tail.tail.tail;refine an.gh (.slice na ((eN p.pg r.rg k).length + 1) nc) (an.bz ?_);rw [jB, de, rX];exact hz
  refine dS ?_;have hc : ¬ iK p.pg r.rg j := fun h => h2 (not_not_intro (Ho.2 h))
  rw [aj hc, pz] at jB;have hz := (hw.b [row 5 1 r'.lv _ _, row 5 1 r'.hv _ _, ah b8 _ _, ah b7 _ _, ah b5 _ _, row 3 1 _ _ _, ah b3 _ _, ah b2 _ _]).tail.tail.tail.tail;refine an.gh (.slice oa (eN p.pg r.rg k).length oc) (an.bz ?_);rw [jB];exact hz
 ·
  clear hw;intro D1 w hw;obtain ⟨ov, hw⟩ := hw.fD;have hw := hw.cF;simp only [iC, ie] at hw;refine z2 ?_;refine lD (v := ov) dU hw ?_;refine z3 ?_;refine bB rfl ?_;refine gz hw pK fun w hw => ?_;exact p6 rfl rfl (hw.b [ah b5 _ _, ah b3 _ _, ah b2 _ _, ah b1 _ _]).tail.tail.tail.tail
 ·
  clear hw; intro D w hw; exact (gC hw).elim fun _ h => h.1.elim
 intro id A hA; cases hA
end
theorem pO : ∀ a b : bW, dI a b = - dI b a
 | [], [] => rfl
 | [], _ :: _ => rfl
 | _ :: _, [] => rfl
 | a :: x, b :: y => by
  have ih := pO x y;simp only [dI]
  by_cases h1 : a.toNat < b.toNat
  ·rw [ao h1, aj oM, ao h1]
  by_cases h2 : b.toNat < a.toNat
  ·rw [aj h1, ao h2, ao h2]; rfl
  rw [aj h1, aj h2, aj h2, aj h1]; exact ih
theorem k4 : ∀ {a b c : bW}, dI a b <= 0 -> dI b c < 0 -> dI a c < 0
 | [], [], _, _, h => h
 | [], _ :: _, [], _, h => by simp [dI] at h
 | [], _ :: _, _ :: _, _, _ => by simp [dI]
 | _ :: _, [], _, h, _ => by simp [dI] at h
 | _ :: _, _ :: _, [], _, h => by simp [dI] at h
 | a :: x, b :: y, c :: z, h1, h2 => by
  have ih := k4 (a := x) (b := y) (c := z);simp only [dI] at h1 h2 ⊢
  by_cases h3 : a.toNat < b.toNat
  ·by_cases h4 : b.toNat < c.toNat
   ·rw [ao oM]; decide
   rw [aj h4] at h2
   by_cases h5 : c.toNat < b.toNat
   ·rw [ao h5] at h2; omega
   rw [ao oM]; decide
  rw [aj h3] at h1
  by_cases h6 : b.toNat < a.toNat
  ·rw [ao h6] at h1; omega
  rw [aj h6] at h1
  by_cases h4 : b.toNat < c.toNat
  ·rw [ao oM]; decide
  rw [aj h4] at h2
  by_cases h5 : c.toNat < b.toNat
  ·rw [ao h5] at h2; omega
  rw [aj h5] at h2;rw [aj oM, aj oM];exact ih h1 h2
theorem yy {a b c : bW} (h1 : dI a b <= 0) (h2 : dI b c <= 0) : dI a c <= 0 := by
 by_cases h : dI b c = 0
 ·rw [Eo] at h; subst h; exact h1
 have := k4 h1 (show dI b c < 0 by omega); omega
theorem K5 {k : bW} (h : 1 <= k.length) : dI [0] k <= 0 := by
 cases k with
 | nil => simp at h
 | cons a k =>
  simp only [dI];have h0 : (0 : UInt8).toNat = 0 := rfl;rw [h0]
  by_cases h1 : 0 < a.toNat
  ·rw [ao h1]; decide
  rw [aj h1, aj oM];cases k <;> simp [dI]
theorem OJ {m : Rg} {k : bW} (h : nO m k) (hl : m.lo.length <= 24) : nO m (mf m.lo) := by
 obtain ⟨h1, h2, h3⟩ := h;have h4 : dI (mf m.lo) k <= 0 /\ 0 <= dI (mf m.lo) m.lo /\ ma (mf m.lo) := by
  unfold mf
  by_cases hk : ma m.lo
  ·rw [ao hk];refine ⟨?_, by rw [Sf]; decide, hk⟩;rw [pO]; omega
  rw [aj hk];have hn : m.lo = [] := by
   unfold ma at hk;exact Ae oM
  rw [hn];exact ⟨K5 h1.1, by decide, by unfold ma; decide⟩
 refine ⟨h4.2.2, h4.2.1, ?_⟩;rcases h3 with h3 | h3
 ·exact .inl h3
 exact .inr (k4 h4.1 h3)
theorem B4 {a b : Rg} {k : bW} : nO (ga a b) k ↔ nO a k /\ nO b k := by
 have acA : 0 <= dI k (g9 a.lo b.lo) ↔ 0 <= dI k a.lo /\ 0 <= dI k b.lo := by
  have e1 := pO k a.lo;have e2 := pO k b.lo;unfold g9
  by_cases h : dI a.lo b.lo < 0
  ·rw [ao h]
   constructor
   ·intro h1;have := yy (a := a.lo) (b := b.lo) (c := k) oM oM;omega
   exact fun h1 => h1.2
  rw [aj h];have e3 := pO a.lo b.lo
  constructor
  ·intro h1;have := yy (a := b.lo) (b := a.lo) (c := k) oM oM;omega
  exact fun h1 => h1.1
 have RT : dI k (xw a.hi b.hi) < 0 ↔ dI k a.hi < 0 /\ dI k b.hi < 0 := by
  unfold xw
  by_cases h : 0 < dI a.hi b.hi
  ·rw [ao h];have e3 := pO a.hi b.hi
   constructor
   ·intro h1;refine ⟨?_, h1⟩;exact k4 (a := k) (b := b.hi) (c := a.hi) oM oM
   exact fun h1 => h1.2
  rw [aj h]
  constructor
  ·intro h1;refine ⟨h1, ?_⟩
   by_cases h0 : dI a.hi b.hi = 0
   ·rw [Eo] at h0; rw [<-h0]; exact h1
   exact k4 (a := k) (b := a.hi) (c := b.hi) oM oM
  exact fun h1 => h1.1
 unfold nO ga;simp only [acA];cases ha : a.Hy <;> cases hb : b.Hy <;> simp [RT] <;> (constructor <;> (intro h; simp_all))
theorem OX {p : Pg} {r : Rg} {i : Nat} {k : bW} (h1 : nO (oG p i) k) (h2 : nO r k) (hl : (ga (oG p i) r).lo.length <= 24) : iK p r i := OJ (B4.2 ⟨h1, h2⟩) hl
def lx (rd : Int -> Option Pg) : Nat -> Int -> List It
 | 0, n => match rd n with
  | none => []
  | some p => p.items
 | k + 1, n => match rd n with
  | none => []
  | some p => p.items.flatMap fun x => lx rd k x.child
theorem F6 {rd : Int -> Option Pg} : ∀ {k : Nat} {n : Int}, nP rd k n = (lx rd k n).map (TC rd)
 | 0, n => by
  rw [nP, lx];cases rd n <;> rfl
 | k + 1, n => by
  rw [nP, lx];cases rd n with
  | none => rfl
  | some p =>
   simp only;rw [List.map_flatMap]
   congr 1
   funext x
   exact F6
theorem s5 {rd : Int -> Option Pg} : ∀ {k : Nat} {n : Int} {r : Rg}, m7 rd k n r -> ∀ y ∈ lx rd k n, nO r y.key
 | 0, n, r, h => by
  obtain ⟨p, hp, h1, h2⟩ := h;intro y hy;rw [lx, hp] at hy;exact h2 y hy
 | k + 1, n, r, h => by
  obtain ⟨p, hp, h1, h2⟩ := h;intro y hy;rw [lx, hp] at hy;obtain ⟨x, hx, hy⟩ := N0.1 hy;obtain ⟨i, hi⟩ := List.getElem?_of_mem hx;exact (B4.1 (s5 (h2 i x hi) y hy)).1
def l9 (rd : Int -> Option Pg) (r : Rg) (x : Int × Nat) : List It := (lx rd x.2 x.1).filter fun y => decide (nO r y.key)
def rP (rd : Int -> Option Pg) (r : Rg) (st : List (Int × Nat)) : List It := st.reverse.flatMap (l9 rd r)
theorem IM (rd : Int -> Option Pg) (r : Rg) (a b : List (Int × Nat)) : rP rd r (a ++ b) = rP rd r b ++ rP rd r a := by unfold rP; rw [List.reverse_append, LK]
def jv (p : Pg) (r : Rg) (k : Nat) : List (Int × Nat) := ((List.range p.items.length).reverse.filter fun i => decide (iK p r i)).map fun i => (dQ p.items i, k)
theorem Lg (p : Pg) (r : Rg) (k : Nat) : (jv p r k).map (·.1) = eN p r p.items.length := by
 unfold jv eN;rw [oF sM, Hx]; rfl
theorem oT {α β : Type} {f : α -> List β} {q : α -> Bool} : ∀ {l : List α}, (∀ x ∈ l, q x = false -> f x = []) -> (l.filter q).flatMap f = l.flatMap f
 | [], _ => rfl
 | x :: l, h => by
  have ih := oT (f := f) (q := q) (l := l) (fun y hy => h y (jN _ hy));rw [N1];cases hq : q x with
  | true => simp [ih]
  | false => simp [ih, h x (iD ..) hq]
theorem Am (l : List It) : (List.range l.length).map (fun i => dQ l i) = l.map It.child := by
 apply LF;intro i;rw [dg, dg]
 by_cases h : i < l.length
 ·rw [LI h, dm h];simp only [NZ];unfold dQ;rw [dm h]; rfl
 rw [Dp (by simp; omega), Dp oM]; rfl
theorem Ba {l : List It} {i : Nat} {x : It} (h : l[i]? = some x) : dQ l i = x.child := by unfold dQ; rw [h]; rfl
theorem Oj {rd : Int -> Option Pg} {r r' : Rg} {k : Nat} {n : Int} (hs : mV rd k n) (hk : m7 rd k n r') (hl : ∀ p i, rd n = some p -> (ga (oG p i) r).lo.length <= 24) : ∃ p, rd n = some p /\ (p.kind = 1 \/ p.kind = 2) ∧
  (p.kind = 1 -> l9 rd r (n, k) = p.items.filter fun y => decide (nO r y.key)) ∧
  (p.kind = 2 -> ∃ j, k = j + 1 /\ l9 rd r (n, k) = rP rd r (jv p r j) /\ (∀ x ∈ jv p r j, mV rd x.2 x.1 /\ ∃ Yg, m7 rd x.2 x.1 Yg) /\ qD rd (jv p r j) < qC rd k n) := by
 cases k with
 | zero =>
  obtain ⟨p, h1, h2, h3⟩ := hs;refine ⟨p, h1, .inl h2, fun _ => ?_, fun h => by omega⟩;unfold l9;simp only [lx, h1]
 | succ j =>
  obtain ⟨p, h1, h2, h3⟩ := hs;obtain ⟨p', zM, h4, h5⟩ := hk;rw [h1] at zM;cases zM;refine ⟨p, h1, .inr h2, fun h => by omega, fun _ => ⟨j, rfl, ?_, fun x hx => ?_, ?_⟩⟩
  ·have e1 : l9 rd r (n, j + 1) = (p.items.map It.child).flatMap fun c => l9 rd r (c, j) := by
    unfold l9;simp only [lx, h1];rw [List.filter_flatMap, List.flatMap_map]
   rw [e1, <-Am, List.flatMap_map];unfold rP jv;rw [<-List.map_reverse, <-List.filter_reverse, List.reverse_reverse, List.flatMap_map];symm;apply oT;intro i hi hc;have hi := rj.1 hi;obtain ⟨x, hx⟩ : ∃ x, p.items[i]? = some x := ⟨_, dm hi⟩;rw [Ba hx];unfold l9;rw [List.filter_eq_nil_iff];intro y hy Ui;have h6 := (B4.1 (s5 (h5 i x hx) y hy)).2;have h7 := OX h6 (by simpa using Ui) (hl p i h1);simp [h7] at hc
  ·unfold jv at hx;obtain ⟨i, hi, rfl⟩ := dE.1 hx;have hi := rj.1 (List.mem_reverse.1 (Dn.1 hi).1);obtain ⟨x, hx⟩ : ∃ x, p.items[i]? = some x := ⟨_, dm hi⟩;rw [Ba hx];exact ⟨h3 x (gl hx), _, h5 i x hx⟩
  rw [qC, h1];have key : ∀ (q : Nat -> Bool) (l : List Nat) , ((l.filter q).map fun i => qC rd j (dQ p.items i)).sum <= (l.map fun i => qC rd j (dQ p.items i)).sum := by
   intro q l
   induction l with
   | nil => exact g8 _
   | cons i l ih =>
    rw [N1];split
    ·simp only [cH, LB]; omega
    simp only [cH, LB]; omega
  have h6 := key (fun i => decide (iK p r i)) (List.range p.items.length);have h7 : ((List.range p.items.length).map fun i => qC rd j (dQ p.items i)) = p.items.map fun x => qC rd j x.child := by
   have := congrArg (List.map (qC rd j)) (Am p.items);rw [Hx, Hx] at this;exact this
  rw [h7] at h6;have h8 : qD rd (jv p r j) = qD rd (jv p r j).reverse := (L2 rd _).symm;rw [h8];unfold jv qD;rw [<-List.map_reverse, <-List.filter_reverse, List.reverse_reverse, Hx];simp only;have h9 : (((List.range p.items.length).filter fun i => decide (iK p r i)).map ((fun x : Int × Nat => qC rd x.2 x.1) ∘ fun i => (dQ p.items i, j))).sum = (((List.range p.items.length).filter fun i => decide (iK p r i)).map fun i => qC rd j (dQ p.items i)).sum := rfl;omega
structure U8 (L : List aw) (v : Value) (l : List rJ) : Prop where
 sl : aG L (g7 2 v (l.map rJ.cells))
 kk : ∀ x ∈ l, aG L (dP x.kv x.pr.1)
 kv : ∀ x ∈ l, aG L (dP x.vv x.pr.2)
 len : l.length <= 1000000000
theorem an.YH {G : Gh} {A B : aw} {R : List aw} {w : World} (h : an G (A :: B :: R) w) : an G (A :: R) w := by
 have hz := h.b [B];exact hz.tail
def abP (F : List aw -> Prop) (l : List rJ) (k : Nat) (args : List Value) (M : List aw) : Prop := ∃ x, l[k]? = some x /\ args = [iQ k, gQ x.cells] /\ F M
section
variable {G : Gh} {L R : List aw} {w : World}
theorem J9 {F : List aw -> Prop} {l : List rJ} {v : Value} {b1 : Nat} (hp : U8 L v l) (hF : ∀ b c, F (ah b c 66 :: ah b1 [v] 58 :: L)) : Bq prog 184 [pQ b1] G (ah b1 [v] 58 :: L) w l.length (abP F l) (ah b1 [v] 58 :: L) := by
 intro lq J Jx w hy hw;obtain ⟨sa, sc, h1, -, -⟩ := ((hp.sl.of sF).at hw).form;rw [bX] at h1;subst h1;have nM := hp.len;refine ad (args := [_, _]) func184 rfl ntmps184 rfl rfl ?_;refine z2 ?_;refine lD gM hw ?_;refine eJ rfl kR nB rfl ?_;refine z3 ?_;refine bF (fun m e w => ∃ k : Nat, k <= l.length /\ m = l.length - k /\ e = [(0, .func (.yield lq) #[] #[]), (5, .slice sa l.length sc), (6, iQ l.length), (7, iQ k)] /\ an G (J k :: ah b1 [.slice sa l.length sc] 58 :: L) w)
  (m := l.length) sB
  ⟨0, dy _, rfl, rfl, hw⟩ ?_
 rintro m e w ⟨k, hk, rfl, rfl, hw⟩;refine z5 ?_;refine aE rfl (fun h1 => ?_) fun h1 => ?_
 ·
  have gK : k < l.length := oM;obtain ⟨x, hx⟩ : ∃ x, l[k]? = some x := ⟨_, dm gK⟩;have tU : (l.map rJ.cells)[k]? = some x.cells := by rw [dg, hx]; rfl
  obtain ⟨xa, xc, Bt⟩ := (((hp.kk x (gl hx)).of sF).at hw).form;obtain ⟨ya, yc, Nr⟩ := (((hp.kv x (gl hx)).of sF).at hw).form;obtain ⟨bb, oo, hsa⟩ := ((hp.sl.of sF).at hw).nn (by rw [bX]; omega);cases hsa;refine z6 ?_;refine eY rfl nB u7 rfl rfl ⟨oM, oM⟩ ?_;refine bt rfl rfl (ar.many (cs := x.cells) nk rfl (by rw [ez]; exact ((hp.sl.of sF).at hw).at tU)) ?_;refine aF rfl Et hw rfl fun w b4 hw => ?_;refine z1 ?_;refine aT (cs := x.cells) (l' := x.cells) rfl tV rfl rfl nk rfl (by intro u hu; simp [rJ.cells, Bt, Nr] at hu; rcases hu with rfl | rfl <;> rfl) hw pK (by simp [rJ.cells]) rfl rfl (fun w hw => ?_);refine z5 ?_;refine lA (l := x.cells) nk hw ?_;have hz := hw.b [J k, ah b4 _ _];refine pk rfl rfl rfl (hy k _ _ w gK ⟨x, hx, rfl, hF _ _⟩ hz) rfl fun w S8 hv => ?_;obtain ⟨bq, rfl, r9, zL⟩ := nD hv;refine jG rfl rfl ?_;refine aC ?_;refine di rfl (fun h2 => ?_) fun h2 => ?_
  ·
   refine rL ?_;exact kC rfl rfl (.inr (by
 have hz := zL (by simpa using h2);exact hz.YH))
  refine z5 ?_;have hz := (r9 (by simpa using h2)).YH;exact ⟨l.length - (k + 1), oM, [(0, _), (5, _), (6, _), (7, iQ (k + 1 : Nat))], sB, k + 1, oM, rfl, rfl, hz⟩
 refine z1 ?_;exact kC rfl rfl (.inl (by
 have pA : k = l.length := oM;subst pA; exact hw))
end
def abO (l : List rJ) (k : Nat) (args : List Value) (_ : List aw) : Prop := ∃ x a c a' c', l[k]? = some x /\ args = [.slice a x.pr.1.length c, .slice a' x.pr.2.length c']
section
variable {G : Gh} {L R : List aw} {w : World}
theorem WA {ps : List rJ} {gf : Nat} {lb : List Value} {b1 : Nat} {v : Value} {Li Lx : List aw} (gN : ai prog gf) (nM : ∀ x ∈ ps, bP x.pr.1 /\ bP x.pr.2) (OC : ∀ (X : aw) w, Bq prog gf lb G (X :: Li) w ps.length (abP (fun M => U8 M v ps) ps) (X :: Lx)) : Bq prog 183 [pQ b1] G (ah b1 [.func (.func gf) #[] lb.toArray] 215 :: Li) w ps.length (abO ps) (ah b1 [.func (.func gf) #[] lb.toArray] 215 :: Lx) := by
 intro lo Jo Jx w hy hw;refine ad (args := [_, _]) func183 rfl ntmps183 rfl rfl ?_;refine z2 ?_;refine a9 rfl rfl rfl hw rfl fun w b2 hw => ?_;refine z3 ?_;refine lD (v := .func (.func gf) #[] lb.toArray) p4 hw ?_;refine z2 ?_;have hz := hw.b [Jo 0, ah b2 _ _, ah b1 _ _];clear hw;have hw := an.bz (M := [_, _]) hz;refine qI (e₀ := [(2, pQ b2)]) (fun k => aV [Jo k, ah b2 [.func (.yield lo) #[] #[]] 272]) (Jx) [] rfl gN rfl sG rfl hw (fun k args M h => by obtain ⟨x, _, rfl, _⟩ := h; rfl) (OC _ _) ?_ ?_ ?_ ?_
 ·
  clear hw;intro l D1 o k args M w hk oJ hw;obtain ⟨x, hx, rfl, hp⟩ := oJ;have hw := hw.cF;simp only [iC, ie] at hw;have Ym := gl hx;obtain ⟨xa, xc, Bt⟩ := (((hp.kk x Ym).of sF).at hw).form;obtain ⟨ya, yc, Nr⟩ := (((hp.kv x Ym).of sF).at hw).form;refine z1 ?_;refine aF rfl Et hw rfl fun w b4 hw => ?_;refine aT (cs := x.cells) (l' := x.cells) rfl tV rfl rfl nk rfl (by intro u hu; simp [rJ.cells, Bt, Nr] at hu; rcases hu with rfl | rfl <;> rfl) hw pK (by simp [rJ.cells]) rfl rfl (fun w hw => ?_);refine aC ?_;refine ⟨_, hw.pick (A := pt l o) pK, fun o' w hw => ?_⟩;refine z2 ?_;refine bd [0, 1, 2, 4, 5, 3, 6, 7, 8] bJ kR ?_;replace hw := hw.drawn (w.drawn + 1);refine lD (v := .func (.yield lo) #[] #[]) fp hw ?_;refine z1 ?_;refine bt rfl rfl (ar.bL (v := .slice xa x.pr.1.length xc) au hw pK (by rw [<-Bt]; rfl)) ?_;refine z1 ?_;refine bt rfl rfl (ar.bL (v := .slice ya x.pr.2.length yc) au hw pK (by rw [<-Nr]; rfl)) ?_;refine dJ rfl dN rfl (dR (l := x.pr.1) hw (by rw [<-Bt]; exact (hp.kk x Ym).of sF) (nM x Ym).1) (fun w v11 hv q' hq => ?_) (fun w v11 hv => ?_)
  ·
   have hw : an G (row 5 1 v11 x.pr.1.length (cD x.pr.1) :: _) _ := hv;have hq := bm (l := [5, 0]) kR hq;simp only [bQ, dz, or_false] at hq;rcases hq with rfl | rfl
   ·exact bx rfl rfl rfl (ar.bL (v := .slice ya x.pr.2.length yc) au hw pK (by rw [<-Nr]; rfl))
   exact bx rfl rfl rfl (ar.bL (v := .func (.yield lo) #[] #[]) fp hw pK rfl)
  have hw : an G (row 5 1 v11 x.pr.1.length (cD x.pr.1) :: _) _ := hv;refine dJ rfl dN rfl (dR (l := x.pr.2) hw (by rw [<-Nr]; exact (hp.kv x Ym).of sF) (nM x Ym).2) (fun w Sx hv q' hq => ?_) (fun w Sx hv => ?_)
  ·
   have hw : an G (row 5 1 Sx x.pr.2.length (cD x.pr.2) :: _) _ := hv;have hq := bm (l := [0]) kR hq;simp only [bQ, dz, or_false] at hq;subst hq;exact bx rfl rfl rfl (ar.bL (v := .func (.yield lo) #[] #[]) fp hw pK rfl)
  have hw : an G (row 5 1 Sx x.pr.2.length (cD x.pr.2) :: _) _ := hv;obtain ⟨va, vc, rfl⟩ := aP hw;obtain ⟨wa, wc, rfl⟩ := aP (hw.pick (A := row 5 1 v11 _ _) pK);refine pk rfl rfl rfl (hy k _ _ w hk ⟨x, wa, wc, va, vc, hx, rfl⟩ (hw.pick (A := Jo _) pK)) kR fun w S8 hv => ?_;obtain ⟨bq, rfl, r9, zL⟩ := nD hv;refine jG rfl rfl ?_;refine aC ?_;refine di rfl (fun h1 => ?_) fun h1 => ?_
  ·
   refine rL ?_;exact ((zL (by simpa using h1)).b [row 5 1 (.slice va _ vc) _ _, row 5 1 (.slice wa _ wc) _ _, ah b4 _ _, ah b2 _ _, Jx, pt l _, dG D1]).tail.tail.tail.tail
  refine dS ?_;have hz := ((r9 (by simpa using h1)).b [row 5 1 (.slice va _ vc) _ _, row 5 1 (.slice wa _ wc) _ _, ah b4 _ _, Jo _, ah b2 _ _, pt l _, dG D1]).tail.tail.tail;exact an.bz (M := [_, _]) hz
 ·
  clear hw;intro D1 w hw;have hw := hw.cF;simp only [iC, ie] at hw;refine bB rfl ?_;refine gz hw pK fun w hw => ?_;exact BT rfl (.inl (hw.b [ah b2 _ _]).tail)
 ·
  clear hw;intro D1 w hw;refine bB rfl ?_;refine gz hw pK fun w hw => ?_;exact BT rfl (.inr hw)
 intro id A hA; cases hA
end
section
variable {G : Gh} {L R : List aw} {w : World}
theorem HS {vq : Nat} {t : Tr} {r : yI} (hw : an G L w) : Calls prog 120 #[pQ vq, gQ (br t), gQ r.cells] w (bU fun u w' => ∃ b3 b4 b5, u = .func (.func 211) #[] #[pQ b4, pQ b3, pQ b5] /\ an G (ah b4 (br t) 62 :: ah b3 [pQ vq] 28 :: ah b5 r.cells 64 :: L) w') := by
 refine ad (args := [_, _, _]) func120 rfl ntmps120 rfl rfl ?_;refine z2 ?_;refine a9 rfl rfl rfl hw rfl fun w b3 hw => ?_;refine a9 rfl rfl rfl hw rfl fun w b4 hw => ?_;refine a9 rfl rfl rfl hw rfl fun w b5 hw => ?_;refine z4 ?_;refine gP (v1 := #[]) (v2 := #[pQ b4, pQ b3, pQ b5]) rfl (by intro z hz; simp at hz; rcases hz with rfl | rfl | rfl <;> exact ⟨_, rfl⟩) sM (by simp only [jM, cH, gE]; rfl) ?_;refine z3 ?_;exact aK rfl rfl rfl ⟨b3, b4, b5, rfl, hw.b [ah b4 _ _, ah b3 _ _, ah b5 _ _]⟩
end
def G9 (P : Program) (G : Gh) (l n : Nat) (JG : Nat -> List Value -> List aw -> List aw -> Prop) (J : Nat -> aw) (Jx : aw) : Prop :=
 ∀ k args y7 M w, k < n -> JG k args y7 M -> an G (J k :: (y7 ++ M)) w -> KP P l args w fun v w' => (v = .bool true /\ an G (J (k + 1) :: M) w') \/ (v = .bool false /\ an G (Jx :: M) w')
def YU (P : Program) (gf : FuncId) (lb : List Value) (G : Gh) (L : List aw) (w : World) (n : Nat) (JG : Nat -> List Value -> List aw -> List aw -> Prop) (Lx : List aw) : Prop :=
 ∀ (l : Nat) (J : Nat -> aw) (Jx : aw) (w' : World), G9 P G l n JG J Jx -> an G (J 0 :: L) w' -> Calls P gf (.func (.yield l) #[] #[] :: lb).toArray w' (bU fun _ CP => an G (J n :: Lx) CP \/ an G (Jx :: Lx) CP)
section
variable {P : Program} {n : Nat} {K F : hC} {E : List (Nat × hC)} {e e₀ : fm} {w : World} {G : Gh} {L Lx : List aw}
theorem SW {gop : Operand} {ps : Array Tmp} {assign body : Code} {gf : FuncId} {lb : List Value} {m : Nat} {JG : Nat -> List Value -> List aw -> List aw -> Prop}
  (J : Nat -> aw) (Jr : aw) (Je : List (Nat × aw))
  (hg : ev e gop = some (.func (.func gf) #[] lb.toArray)) (hf : ai P gf) (gG : ps.toList.all (Nat.blt · n) = true)
  (hs : fk e₀ e) (Uw : marks e₀ = []) (hw : an G (J 0 :: L) w) (hlen : ∀ k args y7 M, JG k args y7 M -> ps.toList.length = args.length) (OC : YU P gf lb G L w m JG Lx)
  (r8 : ∀ (l D : Nat) (o : Obj) (k : Nat) (args : List Value) (y7 M : List aw) (w : World), k < m -> JG k args y7 M -> an G (J k :: pt l o :: dG D :: (y7 ++ M)) w →
   X P n (some l) assign (fun ze xn => ∃ L1, an G (pt l o :: L1) xn /\ ∀ (o' : Obj) (BB : World), an G (pt l o' :: L1) BB →
    X P n (some l) body (fun _ w => an G (J (k + 1) :: pt l o' :: dG D :: M) w) (P6 G Je (pt l o' :: dG D :: M)) (fun _ w => an G (Jr :: pt l o' :: dG D :: M) w) ze BB) [] (fun _ _ => False) (psE ps.toList args e₀) w)
  (UE : ∀ (D : Nat) (w : World), an G (J m :: dG D :: Lx) w -> K ((1000000000, pQ D) :: e) w)
  (Us : ∀ (D : Nat) (w : World), an G (Jr :: dG D :: Lx) w -> F ((1000000000, pQ D) :: e) w)
  (hex : ∀ (id : Nat) (A : aw), (id, A) ∈ Je -> ∃ K', oU E id = some K' /\ ∀ (D : Nat) (w : World), an G (A :: dG D :: Lx) w -> K' ((1000000000, pQ D) :: e) w) :
  X P n none (.rangeFunc gop ps assign body) K E F e w := fun a ha => by
 refine wpIn_rangeFunc (F := Fw none) ?_;intro fn _;obtain ⟨D, hD⟩ : ∃ D, D = w.heap.size := ⟨_, rfl⟩;obtain ⟨rec, xy⟩ : ∃ rec : LoopState -> Option Code -> Obj, rec = fun st pe => aa0 fn a.tmps ps assign body D st pe := ⟨_, rfl⟩
 have uo : an G (pt (D + 1) (rec .ready none) :: dG D :: J 0 :: L) ((w.alloc (.deferred (some []))).alloc (rec .ready none)) := by
  have h1 := hw.push (.deferred (some []));have h2 := h1.push (rec .ready none);simp only [Array.size_push] at h2;rw [hD];exact h2
 obtain ⟨W1, hW1⟩ : ∃ W1, (w.alloc (.deferred (some []))).alloc (rec .ready none) = W1 := ⟨_, rfl⟩;rw [hW1] at uo;have PZ := ha.ev hg;obtain ⟨ff, RW, RV, hf3⟩ := hf;refine ⟨D + 1, [{ target := .collected D, args := #[] }], W1, { target := .fn (.func gf) lb.toArray, args := #[.func (.yield (D + 1)) #[] #[]] }, W1, gf,
  (.func (.yield (D + 1)) #[] #[] :: lb).toArray, W1, ?_, ?_, fun _ _ => trivial, ?_, (fun hd => by cases hd), ?_⟩
 ·rw [<-hW1, xy, hD]; exact run_enterLoop_outer _ _ _ _ _
 ·simp only [resolve, PZ];simp [Deferred.ofValue, Act.eval]
 ·simp only [invoke, callFunc, Sem.run_bind, Sem.run_pure, Result.andThen_ok, program, Sem.run, RW, RV, hf3];simp
 have Fy : ∀ (st : LoopState) (pe : Option Code) (A : aw) (kM : World), st ≠ .busy -> an G (pt (D + 1) (rec st pe) :: dG D :: A :: Lx) kM -> ∃ oA, (Instr.endLoop (D + 1)).run P kM = .ok pe oA /\ an G (A :: dG D :: Lx) oA := fun st pe A kM jB h => by
  have h1 := h.cW;rw [xy] at h1;have h2 := run_endLoop (P := P) (r := { state := st, pending := pe, fn, tmps := a.tmps, params := ps, assign, body, defers := D }) h1 jB;exact ⟨_, h2, ((ll h _).tail).pick (.there .here)⟩
 have hag : dh n ((1000000000, pQ D) :: e) { a with defers := [{ target := .collected D, args := #[] }] ++ a.defers } := by
  refine ⟨?_, ha.size, ha.small, fun t v hv => ?_⟩
  ·simp [marks, YI, ha.defers]
  rcases kX hv with ⟨h1, _⟩ | ⟨_, h2⟩
  ·exact absurd h1.symm (vL hv)
  exact ha.get t v h2
 have aah : dh n e₀ { tmps := a.tmps, defers := [] } := ⟨by rw [Uw]; rfl, ha.size, ha.small, fun t v hv => ha.get t v (hs t v hv)⟩;obtain ⟨Jk, W9⟩ : ∃ Jk : Nat -> aw, Jk = fun k h => all [pt (D + 1) (rec .ready none), dG D, J k] h := ⟨_, rfl⟩
 obtain ⟨Jx, hJx⟩ : ∃ Jx : aw, Jx = fun h => all [pt (D + 1) (rec .done (some .ret)), dG D, Jr] h \/ ∃ id A, (id, A) ∈ Je /\ all [pt (D + 1) (rec .done (some (.exit id))), dG D, A] h := ⟨_, rfl⟩
 have hy : G9 P G (D + 1) m JG Jk Jx := fun k args y7 M w' hk oJ hS => by
  rw [W9] at hS;obtain ⟨hh, h1, h2⟩ := gC hS;have hS' : an G (pt (D + 1) (rec .ready none) :: dG D :: J k :: (y7 ++ M)) w' := h2 _ h1;have hl := hlen k args y7 M oJ;have s7 := hS'.cW;rw [xy] at s7
  refine ⟨fn, _, assign, body, run_yield (r := { state := .ready, pending := none, fn, tmps := a.tmps, params := ps, assign, body, defers := D }) s7 (by simpa using hl.symm), ?_⟩;refine roundIn_of_wpIn (F := Fw none) trivial ?_;have Mt : ((ps.zip args.toArray).foldl (fun tmps x => tmps.setIfInBounds x.1 x.2) a.tmps) = (ps.toList.zip args).foldl (fun t x => t.setIfInBounds x.1 x.2) a.tmps := by
   rw [<-Array.foldl_toList, Array.toList_zip]
  have hX := r8 (D + 1) D (rec .ready none) k args y7 M w' hk oJ (hS'.GQ (As := [J k]) (.cons (.there (.there .here)) .nil)) _ (G5 ps.toList args e₀ _ aah gG hl)
  show assign.wpIn (Fw (some (D + 1))) 0 P _ { tmps := ((ps.zip args.toArray).foldl (fun tmps x => tmps.setIfInBounds x.1 x.2) a.tmps), defers := [] } w'
  rw [Mt];refine wpIn_mono hX fun ex Bl xn hq => ?_
  cases ex <;> simp only [oR, oU] at hq <;> simp only [Exit.then]
  case exit => obtain ⟨K', h, _⟩ := hq; cases h
  case ret => obtain ⟨_, _, h⟩ := hq; exact h
  case normal =>
   obtain ⟨ze, UI, L1, hS1, UF⟩ := hq;have Mi := hS1.cW;rw [xy] at Mi;refine ⟨_, run_beginRound (r := { state := .ready, pending := none, fn, tmps := a.tmps, params := ps, assign, body, defers := D }) Mi rfl, ?_⟩;refine wpIn_mono (UF (rec .busy none) _ (by rw [xy]; exact ll hS1 _) Bl UI) fun ex aas BB hq => ?_
   have OG : ∀ (jump : Option Code) (A : aw), an G (A :: pt (D + 1) (rec .busy none) :: dG D :: M) BB -> ∃ kM, (Instr.endRound (D + 1) jump).run P BB = .ok (.bool jump.isNone) kM /\ an G (pt (D + 1) (rec (if jump.isNone then .ready else .done) jump) :: dG D :: A :: M) kM := fun jump A h => by
    have h := h.GQ (As := [pt (D + 1) _, dG D]) (.cons (.there .here) (.cons (.there .here) .nil));have h1 := h.cW;rw [xy] at h1;refine ⟨_, run_endRound (r := { state := .busy, pending := none, fn, tmps := a.tmps, params := ps, assign, body, defers := D }) jump h1, ?_⟩;rw [xy]; exact ll h _
   cases ex <;> simp only [oR] at hq <;> simp only [roundPost]
   case normal =>
    obtain ⟨_, _, h⟩ := hq;obtain ⟨kM, h3, h4⟩ := OG none _ h;exact ⟨_, kM, h3, _, rfl, .inl ⟨rfl, by rw [W9]; exact q7 (M := [_, _, _]) h4 fun _ h => h⟩⟩
   case ret =>
    obtain ⟨_, _, h⟩ := hq;obtain ⟨kM, h3, h4⟩ := OG (some .ret) _ h;exact ⟨_, kM, h3, _, rfl, .inr ⟨rfl, by rw [hJx]; exact q7 (M := [_, _, _]) h4 fun _ h => .inl h⟩⟩
   case exit id =>
    obtain ⟨K', gK, _, _, h⟩ := hq;obtain ⟨A, hA, rfl⟩ := Jm gK;obtain ⟨kM, h3, h4⟩ := OG (some (.exit id)) _ h;exact ⟨_, kM, h3, _, rfl, .inr ⟨rfl, by rw [hJx]; exact q7 (M := [_, _, _]) h4 fun _ h => .inr ⟨id, A, hA, h⟩⟩⟩
 have h0 : an G (Jk 0 :: L) W1 := by rw [W9]; exact q7 (M := [_, _, _]) uo fun _ h => h
 refine Calls.fw (Calls.mono (OC (D + 1) Jk Jx W1 hy h0) fun en kM ⟨v, hv, hR⟩ => ?_) none _;subst hv
 show ∃ jump oA, _
 rcases hR with hR | hR
 ·rw [W9] at hR;obtain ⟨hh, h1, h2⟩ := gC hR;obtain ⟨oA, h3, h4⟩ := Fy _ _ _ kM sM (h2 _ h1);exact ⟨none, oA, h3, _, hag, UE D oA h4⟩
 rw [hJx] at hR;obtain ⟨hh, h1 | ⟨id, A, hA, h1⟩, h2⟩ := gC hR
 ·obtain ⟨oA, h3, h4⟩ := Fy _ _ _ kM sM (h2 _ h1);exact ⟨some .ret, oA, h3, wpIn_ret ⟨_, hag, Us D oA h4⟩⟩
 obtain ⟨oA, h3, h4⟩ := Fy _ _ _ kM sM (h2 _ h1);obtain ⟨K', gK, hK⟩ := hex id A hA;exact ⟨some (.exit id), oA, h3, wpIn_exit ⟨K', gK, _, hag, hK D oA h4⟩⟩
end
def YV (vq : Nat) (V : Va) (its : List It) (k : Nat) (args : List Value) (y7 M : List aw) : Prop := ∃ (x : bO) (R : List aw), its[k]? = some x.it /\ args = [gQ x.cells] /\ y7 = bw x /\ bP x.it.key /\ bP x.it.value /\ cG (cj vq V) M R
theorem an.O0 {G : Gh} {R M N : List aw} {w : World} (h : an G (aV (M ++ N) :: R) w) : an G (M ++ (aV N :: R)) w := by
 have h1 := h.cF;rw [pZ] at h1;exact h1.mono fun x hx => by
  have key : ∀ (M : List aw) (x : rH), all (M ++ (N ++ R)) x -> all (M ++ aV N :: R) x := fun M => by
   induction M with
   | nil => exact fun x hx => (iM N R x).2 hx
   | cons A M ih => exact fun x hx => gk ih hx
  exact key M x hx
theorem rY (l : List Int) : bg l = (l.map fun c => [iQ c]).flatten := by
 induction l with
 | nil => rfl
 | cons x l ih => simp only [bg, cH, EY, List.singleton_append] at ih ⊢; rw [ih]
theorem Yl (v : Value) (l : List Int) {R : List aw} : aG (row 3 1 v l.length (bg l) :: R) (g7 1 v (l.map fun c => [iQ c])) := by
 rw [rY];exact (g7.row sM (fun r hr => by obtain ⟨c, _, rfl⟩ := dE.1 hr; rfl)).head R
section
variable {G : Gh} {L R : List aw} {w : World}
theorem Ue {vq b4 b3 b5 kk : Nat} {V : Va} {t : Tr} {r : yI} {its : List It} (aW : V.Ok) (hs : t.root ≠ 0 -> mV V.rd kk t.root /\ ∃ r', m7 V.rd kk t.root r') (m8 : its = if t.root = 0 then [] else l9 V.rd r.rg (t.root, kk)) (Oy : t.root ≠ 0 -> qC V.rd kk t.root <= 1000000000) (hl : ∀ n p i, V.rd n = some p -> (ga (oG p i) r.rg).lo.length <= 24) (hr : r.Ok L) :
  YU prog 211 [pQ b4, pQ b3, pQ b5] G (ah b4 (br t) 62 :: ah b3 [pQ vq] 28 :: ah b5 r.cells 64 :: cj vq V :: L) w its.length (YV vq V its) (ah b4 (br t) 62 :: ah b3 [pQ vq] 28 :: ah b5 r.cells 64 :: cj vq V :: L) := by
 intro lo Jo Jx w hy hw;refine ad (args := [_, _, _, _]) func211 rfl ntmps211 rfl rfl ?_;refine VL ?_;refine z4 ?_;refine lD (v := iQ t.root) ag hw ?_;refine z2 ?_;refine aE rfl (fun h1 => ?_) fun h1 => ?_
 ·
  refine rL ?_;exact kC rfl rfl (.inl (by
 rw [ao h1] at m8;subst m8;exact hw))
 obtain ⟨Ox, r', Ei⟩ := hs h1;have Oy := Oy h1;rw [aj h1] at m8;refine z4 ?_;refine lD (v := iQ t.root) ag hw ?_;refine fG (cs := [iQ t.root]) rfl bp cm gZ dM rfl rfl rfl hw rfl fun w NA hw => ?_;refine z3 ?_;refine VO ?_;refine z1 ?_;have hw := gS (z := 1) (m := 1) hw rfl mL;have hw := hw.b [Jo 0, row 3 1 _ _ _, ah b4 _ _, ah b3 _ _, ah b5 _ _, cj vq V];have hw : an G (Jo 0 :: row 3 1 (.slice (some ⟨NA, 0, none⟩) 1 1) [(t.root, kk)].length (bg ([(t.root, kk)].map (·.1))) :: ah b4 (br t) 62 :: ah b3 [pQ vq] 28 :: ah b5 r.cells 64 :: cj vq V :: L) w := hw;refine bF (fun m e w => ∃ (st : List (Int × Nat)) (k : Nat) (tv : Value), m = qD V.rd st /\ e = [(0, .func (.yield lo) #[] #[]), (1, pQ b4), (2, pQ b3), (3, pQ b5), (5, tv)] /\ ((∀ x ∈ st, mV V.rd x.2 x.1 /\ ∃ r', m7 V.rd x.2 x.1 r') /\ its.drop k = rP V.rd r.rg st /\ k <= its.length /\ qD V.rd st <= 1000000000) /\ an G (Jo k :: row 3 1 tv st.length (bg (st.map (·.1))) :: ah b4 (br t) 62 :: ah b3 [pQ vq] 28 :: ah b5 r.cells 64 :: cj vq V :: L) w)
  (m := qD V.rd [(t.root, kk)]) sB
  ⟨[(t.root, kk)], 0, _, rfl, rfl, ⟨by intro x hx; simp at hx; subst hx; exact ⟨Ox, r', Ei⟩, by rw [m8]; simp [rP], dy _, by simpa [qD] using Oy⟩, hw⟩ ?_
 rintro m e w ⟨st, k, tv, rfl, rfl, ⟨jB, Ej, Ax, hns⟩, hw⟩;obtain ⟨ta, tc, rfl⟩ := aP (hw.pick (A := row 3 1 tv _ _) pK);refine z7 ?_;refine aE rfl (fun h2 => ?_) fun h2 => ?_
 ·
  obtain ⟨jj, x, rfl⟩ : ∃ jj x, st = jj ++ [x] := ⟨st.dropLast, st.getLast (by intro h; subst h; simp at h2), (We _).symm⟩;obtain ⟨n, kn⟩ := x;obtain ⟨Vn, rn, hkn⟩ := jB (n, kn) sM;simp only at Vn hkn;obtain ⟨p, qE, abr, abp, Z8⟩ := Oj (r := r.rg) Vn hkn (fun p i hp => hl n p i hp);have aa9 : ∀ x ∈ jj, mV V.rd x.2 x.1 /\ ∃ r', m7 V.rd x.2 x.1 r' := fun x hx => jB x (xt _ hx)
  have Yy := L3 V.rd jj;have ad1 : qD V.rd (jj ++ [(n, kn)]) = qD V.rd jj + qC V.rd kn n := by rw [Ai]; simp [qD]
  have hnp := L0 V.rd kn n;have aac : its.drop k = l9 V.rd r.rg (n, kn) ++ rP V.rd r.rg jj := by rw [Ej, IM]; simp [rP]
  have hlen : (jj ++ [(n, kn)]).length = jj.length + 1 := by simp
  rw [hlen] at hw;rw [hlen];have ZO : (bg ((jj ++ [(n, kn)]).map (·.1)))[jj.length]? = some (iQ n) := by simp [bg]
  have hw := hw.b [row 3 1 (.slice ta _ tc) _ _];obtain ⟨-, tb, -, HA, htc, -⟩ := hY hw oM;have Um : ∀ R, aG (row 3 1 (.slice (some ⟨tb, 0, none⟩) (jj.length + 1) tc) (jj.length + 1) (bg ((jj ++ [(n, kn)]).map (·.1))) :: R) (qx (.slice (some ⟨tb, 0, none⟩) (jj.length + 1) tc) (bg ((jj ++ [(n, kn)]).map (·.1)))) := fun R => by
   have h := uk (v := .slice (some ⟨tb, 0, none⟩) (jj.length + 1) tc) (c := (jj ++ [(n, kn)]).map (·.1)) (R := R);rw [bX, hlen] at h;exact h
  rw [HA] at hw;rw [HA];have hw := hw.b [row 3 1 (.slice (some ⟨tb, 0, none⟩) _ tc) _ _, Jo k];have VE : (((jj.length + 1 : Nat) : Int) - 1).toNat = jj.length := oM;refine z9 ?_;refine pS (fun e w => ∃ (b7 : Nat) (p' : bT), e = [(0, .func (.yield lo) #[] #[]), (1, pQ b4), (2, pQ b3), (3, pQ b5), (5, .slice (some ⟨tb, 0, none⟩) (jj.length + 1) tc), (6, iQ (((jj.length + 1 : Nat) : Int) - 1)), (7, pQ b7), (8, iQ 0)] /\ (V.rd n = some p'.pg /\ p'.Sm) /\ an G (row 3 1 (.slice (some ⟨tb, 0, none⟩) (jj.length + 1) tc) (jj.length + 1) (bg ((jj ++ [(n, kn)]).map (·.1))) :: ah b7 p'.cells 104 :: cB p' :: Jo k :: ah b4 (br t) 62 :: ah b3 [pQ vq] 28 :: ah b5 r.cells 64 :: cj vq V :: L) w) ?_ ?_
  ·
   refine Pf [0, 1, 2, 3, 4] 5 [6, 7, 8, 9, 10, 11] 9 [5, 6, 7, 8, 10, 11] bJ kR ?_;replace hw := hw.drawn (w.drawn + 1);refine lD (v := pQ vq) aA hw ?_;refine z2 ?_;refine cR rfl bp cm rfl rfl ⟨oM, oM⟩ ?_;refine bt rfl rfl (ar.one (v := iQ n) ag ((((Um _).of sF).at hw).at (by rw [VE]; exact ZO))) ?_;refine aC ?_;refine ⟨?_, ?_⟩
   ·
    refine al rfl cE rfl (gi (n := n) (hw.b [cj vq V]) aW) kR fun w VX hv => ?_;obtain ⟨p', er, A, rfl, jd, iT, hw⟩ := hv;obtain ⟨Dw, rfl, rfl, gG⟩ := iT.resolve_left (fun h => by rw [h.1] at qE; cases qE);refine z3 ?_;refine pT rfl bE hw (fun w b7 hw q' hq => ?_) fun w b7 hw => ?_
    ·
     have hq := bm (l := [4, 0]) kR hq;simp only [bQ, dz, or_false] at hq;rcases hq with rfl | rfl
     ·exact bx rfl rfl rfl (ar.one (v := iQ n) ag ((((Um _).of sF).at hw).at (by rw [VE]; exact ZO)))
     exact bx rfl rfl rfl (ar.bL (v := pQ vq) aA hw pK rfl)
    refine aT (cs := p'.cells) (l' := p'.cells) rfl tV rfl rfl ae rfl jd hw pK (by simp [bT.cells]) rfl kR fun w hw => ?_;refine z2 ?_;exact ⟨[(0, _), (1, _), (2, _), (3, _), (5, _), (6, _), (7, _), (8, _)], sB, b7, p', rfl, ⟨Dw, gG⟩, hw.b [row 3 1 (.slice (some ⟨tb, 0, none⟩) _ tc) _ _, ah b7 _ _, cB p', Jo k, ah b4 _ _, ah b3 _ _, ah b5 _ _, cj vq V]⟩
   refine pT rfl bE hw (fun w b7 hw q' hq => ?_) fun w b7 hw => ?_
   ·
    have hq := bm (l := [4, 0]) kR hq;simp only [bQ, dz, or_false] at hq;rcases hq with rfl | rfl
    ·exact bx rfl rfl rfl (ar.one (v := iQ n) ag ((((Um _).of sF).at hw).at (by rw [VE]; exact ZO)))
    exact bx rfl rfl rfl (ar.bL (v := pQ vq) aA hw pK rfl)
   refine al rfl cE rfl (gi (n := n) (hw.b [cj vq V]) aW) kR fun w VX hv => ?_;obtain ⟨p', er, A, rfl, jd, iT, hw⟩ := hv;obtain ⟨Dw, rfl, rfl, gG⟩ := iT.resolve_left (fun h => by rw [h.1] at qE; cases qE);refine z3 ?_;refine aT (cs := p'.cells) (l' := p'.cells) rfl tV rfl rfl ae rfl jd hw pK (by simp [bT.cells]) rfl kR fun w hw => ?_;refine z2 ?_;exact ⟨[(0, _), (1, _), (2, _), (3, _), (5, _), (6, _), (7, _), (8, _)], sB, b7, p', rfl, ⟨Dw, gG⟩, hw.b [row 3 1 (.slice (some ⟨tb, 0, none⟩) _ tc) _ _, ah b7 _ _, cB p', Jo k, ah b4 _ _, ah b3 _ _, ah b5 _ _, cj vq V]⟩
  clear hw;rintro e w ⟨b7, p', rfl, ⟨Dw, gG⟩, hw⟩;rw [qE] at Dw;cases Dw;have Hn := Va.BJ aW n _ qE;have hp8 := (eZ Hn).1;have kO : p'.pg.items.length = p'.l.length := by simp [bT.pg]
  obtain ⟨ia, ic, RP⟩ := gG.form hw pK;refine z4 ?_;refine u1 rfl bp Pp rfl sM rfl ⟨oM, oM⟩ ?_;rw [VE];have hw := JS hw (j := jj.length) oM;have ZP : (bg ((jj ++ [(n, kn)]).map (·.1))).take jj.length = bg (jj.map (·.1)) := by simp [bg]
  rw [ZP] at hw;refine z8 ?_;refine aE rfl (fun h3 => ?_) fun h3 => ?_
  ·
   exact absurd rfl h3
  refine z5 ?_;refine lD (v := iQ p'.kind) ag hw ?_;refine z2 ?_;refine aE rfl (fun h4 => ?_) fun h4 => ?_
  ·
   obtain ⟨j, hkj, hir, BZ, hnu⟩ := Z8 h4;have Vk := CO p'.pg r.rg p'.pg.items.length;refine z3 ?_;refine lA (l := p'.cells) ae hw ?_;refine lA (l := r.cells) aY hw ?_;refine al rfl DS rfl (Ga (p := p') (r := r) hw (aS gG pK) (hr.of sF) oM (fun i => hl n _ i qE)) rfl fun w v43 hv => ?_;have hw : an G (row 3 1 v43 (eN p'.pg r.rg p'.l.length).length (bg (eN p'.pg r.rg p'.l.length)) :: _) _ := hv
   (try unfold sQ at hw); rw [<-kO] at hw
   obtain ⟨wa, wc, rfl⟩ := aP hw;refine Bz (m := jj.length) (rs := (eN p'.pg r.rg p'.pg.items.length).map fun c => [iQ c]) rfl bp cm ni gZ rfl rfl hw pK (((Yl _ _).of sF).at hw) (by rw [<-rY]; intro u hu; obtain ⟨c, _, rfl⟩ := dE.1 hu; rfl) (by rw [bX]; simp only [maxLen]; omega) (by rw [bX]; omega) rfl (fun w v44 hw => ?_);rw [bX, <-rY] at hw;refine z3 ?_;have hz := (hw.b [row 3 1 (.slice wa _ wc) _ _, ah b7 _ _, cB p', Jo k, row 3 1 v44 _ _, ah b4 _ _, ah b3 _ _, ah b5 _ _, cj vq V]).tail.tail.tail;have Jc := Lg p'.pg r.rg j;have e1 : bg (jj.map (·.1)) ++ bg (eN p'.pg r.rg p'.pg.items.length) = bg ((jj ++ jv p'.pg r.rg j).map (·.1)) := by rw [kz, Jc]; simp [bg]
   have e2 : jj.length + (eN p'.pg r.rg p'.pg.items.length).length = (jj ++ jv p'.pg r.rg j).length := by rw [<-Jc]; simp
   rw [e1, e2] at hz;refine ⟨qD V.rd (jj ++ jv p'.pg r.rg j), by rw [Ai]; omega, [(0, _), (1, _), (2, _), (3, _), (5, v44)], sB, jj ++ jv p'.pg r.rg j, k, v44, rfl, rfl, ⟨fun x hx => ?_, by rw [aac, hir, IM], Ax, by rw [Ai]; omega⟩, hz⟩;rcases gF.1 hx with hx | hx
   ·exact aa9 x hx
   exact BZ x hx
  have Vr : p'.pg.kind = 1 := abr.resolve_right h4;rw [abp Vr] at aac;refine z4 ?_;refine bt rfl rfl (ar.bL (v := .slice ia p'.l.length ic) az hw pK (by rw [<-RP]; rfl)) ?_;refine z4 ?_;have hz := an.cF (M := fV p') (hw.b [cB p', Jo k, ah b7 _ _, row 3 1 (.slice (some ⟨tb, 0, none⟩) _ tc) _ _, ah b4 _ _, ah b3 _ _, ah b5 _ _, cj vq V]);simp only [fV, iC, ie, RP] at hz
  have hz := (hz.b [row 5 1 p'.d _ _, Jo k, row 198 4 (.slice ia p'.l.length ic) p'.l.length (p'.l.map bO.cells).flatten, aV (p'.l.flatMap bw)]).tail;have e0 : p'.l.flatMap bw = (p'.l.drop 0).flatMap bw := by rw [NX]
  rw [e0] at hz;clear hw;have hw := hz;clear hz;refine bF (fun m e w => ∃ (j k' : Nat), j <= p'.l.length /\ m = p'.l.length - j /\ e = [(0, .func (.yield lo) #[] #[]), (1, pQ b4), (2, pQ b3), (3, pQ b5), (5, .slice (some ⟨tb, 0, none⟩) jj.length tc), (46, .slice ia p'.l.length ic), (47, iQ p'.l.length), (48, iQ j)] /\ (its.drop k' = ((p'.pg.items.drop j).filter fun y => decide (nO r.rg y.key)) ++ rP V.rd r.rg jj /\ k' <= its.length) /\ an G (Jo k' :: row 198 4 (.slice ia p'.l.length ic) p'.l.length (p'.l.map bO.cells).flatten :: aV ((p'.l.drop j).flatMap bw) :: ah b7 p'.cells 104 :: row 3 1 (.slice (some ⟨tb, 0, none⟩) jj.length tc) jj.length (bg (jj.map (·.1))) :: ah b4 (br t) 62 :: ah b3 [pQ vq] 28 :: ah b5 r.cells 64 :: cj vq V :: L) w)
   (m := p'.l.length) sB
   ⟨0, k, dy _, rfl, rfl, ⟨aac, Ax⟩, hw⟩ ?_
  rintro m e w ⟨j, k', hj, rfl, rfl, ⟨WZ, hkj⟩, hw⟩;refine z5 ?_;refine aE rfl (fun h5 => ?_) fun h5 => ?_
  ·
   have Vt : j < p'.l.length := oM;obtain ⟨x, hx⟩ : ∃ x, p'.l[j]? = some x := ⟨_, dm Vt⟩;have tU : (p'.l.map bO.cells)[j]? = some x.cells := by rw [dg, hx]; rfl
   have C4 : p'.pg.items[j]? = some x.it := by show (p'.l.map bO.it)[_]? = _; rw [dg, hx]; rfl
   have Mh := gG.it x (gl hx);have me : ∀ R, x.Ok (row 5 1 x.kv x.it.key.length (cD x.it.key) :: row 5 1 x.vv x.it.value.length (cD x.it.value) :: R) := fun R => ⟨ve rfl .here, ve rfl (.there .here), Mh.1, Mh.2⟩
   have Mo : ∀ R, aG (row 198 4 (.slice ia p'.l.length ic) p'.l.length (p'.l.map bO.cells).flatten :: R) (g7 4 (.slice ia p'.l.length ic) (p'.l.map bO.cells)) := fun R => (g7.row sM (fun r hr => by obtain ⟨x, -, rfl⟩ := dE.1 hr; rfl)).head R
   rw [eF hx, LG] at hw;have hw := an.O0 (M := bw x) (hw.b [aV (bw x ++ _)]);simp only [bw, iC, ie] at hw
   obtain ⟨xa, xc, xa2, xc2, Bt, Nr, WJ⟩ := (me _).form hw;obtain ⟨ib, io, OE⟩ := (((Mo _).of sF).at hw).nn (by rw [bX]; omega);rw [eF C4, N1] at WZ;cases OE;refine z5 ?_;refine eY rfl aJ bf rfl rfl ⟨oM, oM⟩ ?_;refine bt rfl rfl (ar.many (cs := x.cells) aD rfl (by have h := (((Mo _).of sF).at hw).at tU; rw [ez]; exact h)) ?_;refine aF rfl eM hw rfl fun w rF hw => ?_;refine aT (cs := x.cells) (l' := x.cells) rfl tV rfl rfl aD rfl (by rw [WJ]; intro u hu; simp at hu; rcases hu with rfl | rfl | rfl | rfl <;> rfl) hw pK (by simp [bO.cells]) rfl rfl (fun w hw => ?_);refine z3 ?_;refine lA (l := r.cells) aY hw ?_;refine z1 ?_;refine lD (v := x.kv) au hw ?_;refine al rfl tG rfl (wg (r := r) (k := x.it.key) hw (hr.of sF) ((me _).k.of sF)) rfl fun w v55 hv => ?_;obtain ⟨rfl, hw⟩ := hv;refine z1 ?_;refine ay (d := 56) rfl (fun h6 => ?_) fun h6 => ?_
   ·
    rw [ao (decide_eq_true h6), iC] at WZ;have hik : its[k']? = some x.it := by rw [<-List.head?_drop, WZ]; rfl
    have Jg : k' < its.length := (xu.1 hik).1;have Kf : its.drop (k' + 1) = ((p'.pg.items.drop (j + 1)).filter fun y => decide (nO r.rg y.key)) ++ rP V.rd r.rg jj := by
     rw [eF hik] at WZ;exact (List.cons.inj WZ).2
    refine z1 ?_;refine lA (l := x.cells) aD hw ?_;have hz : an G (Jo k' :: (bw x ++ (ah rF x.cells 198 :: aV ((p'.l.drop (j + 1)).flatMap bw) :: row 198 4 (.slice (some ⟨ib, io, none⟩) p'.l.length ic) p'.l.length (p'.l.map bO.cells).flatten :: ah b7 p'.cells 104 :: row 3 1 (.slice (some ⟨tb, 0, none⟩) jj.length tc) jj.length (bg (jj.map (·.1))) :: ah b4 (br t) 62 :: ah b3 [pQ vq] 28 :: ah b5 r.cells 64 :: cj vq V :: L))) w := hw.b [Jo k', row 5 1 x.kv _ _, row 5 1 x.vv _ _];have oJ : YV vq V its k' [gQ x.cells] (bw x) (ah rF x.cells 198 :: aV ((p'.l.drop (j + 1)).flatMap bw) :: row 198 4 (.slice (some ⟨ib, io, none⟩) p'.l.length ic) p'.l.length (p'.l.map bO.cells).flatten :: ah b7 p'.cells 104 :: row 3 1 (.slice (some ⟨tb, 0, none⟩) jj.length tc) jj.length (bg (jj.map (·.1))) :: ah b4 (br t) 62 :: ah b3 [pQ vq] 28 :: ah b5 r.cells 64 :: cj vq V :: L) := ⟨x, ah rF x.cells 198 :: aV ((p'.l.drop (j + 1)).flatMap bw) :: row 198 4 (.slice (some ⟨ib, io, none⟩) p'.l.length ic) p'.l.length (p'.l.map bO.cells).flatten :: ah b7 p'.cells 104 :: row 3 1 (.slice (some ⟨tb, 0, none⟩) jj.length tc) jj.length (bg (jj.map (·.1))) :: ah b4 (br t) 62 :: ah b3 [pQ vq] 28 :: ah b5 r.cells 64 :: L, hik, rfl, rfl, Mh.1, Mh.2, pK⟩;refine pk rfl rfl rfl (hy k' _ _ _ w Jg oJ hz) rfl fun w v59 hv => ?_;obtain ⟨bq, rfl, r9, zL⟩ := nD hv;refine jG rfl rfl ?_;refine z2 ?_;refine di rfl (fun h7 => ?_) fun h7 => ?_
    ·
     refine z1 ?_;exact kC rfl rfl (.inr (by
 have hz := zL (by simpa using h7);have hz := hz.b [ah rF _ _, aV _, row 198 4 _ _ _, ah b7 _ _, row 3 1 (.slice (some ⟨tb, 0, none⟩) _ tc) _ _, Jx];exact hz.tail.tail.tail.tail.tail))
    refine z5 ?_;have hz := r9 (by simpa using h7);have hz := (hz.b [ah rF _ _, Jo _, row 198 4 _ _ _, aV _]).tail;exact ⟨p'.l.length - (j + 1), oM, [(0, _), (1, _), (2, _), (3, _), (5, _), (46, _), (47, _), (48, iQ (j + 1 : Nat))], sB, j + 1, k' + 1, oM, rfl, rfl, ⟨Kf, Jg⟩, hz⟩
   refine z6 ?_;refine cg rfl ?_;refine z5 ?_;rw [aj (by simpa using h6)] at WZ;exact ⟨p'.l.length - (j + 1), oM, [(0, _), (1, _), (2, _), (3, _), (5, _), (46, _), (47, _), (48, iQ (j + 1 : Nat))], sB, j + 1, k', oM, rfl, rfl, ⟨WZ, hkj⟩, (hw.b [ah rF _ _, row 5 1 x.kv _ _, row 5 1 x.vv _ _, Jo _, row 198 4 _ _ _, aV _]).tail.tail.tail⟩
  refine z1 ?_;have Vu : j = p'.l.length := oM;rw [show p'.pg.items.drop j = [] from vm oM, List.filter_nil, ie] at WZ;have hz := (hw.b [row 198 4 _ _ _, aV _, ah b7 _ _, Jo k', row 3 1 (.slice (some ⟨tb, 0, none⟩) _ tc) _ _]).tail.tail.tail;exact ⟨qD V.rd jj, oM, [(0, _), (1, _), (2, _), (3, _), (5, _)], sB, jj, k', _, rfl, rfl, ⟨aa9, WZ, hkj, oM⟩, hz⟩
 refine z1 ?_;exact kC rfl rfl (.inl (by
 have hz : st = [] := Ae oM;subst hz;have pA : k = its.length := by
  have := congrArg List.length Ej;rw [gT] at this;simp [rP] at this
  omega
 subst pA;exact (hw.b [row 3 1 (.slice ta _ tc) _ _]).tail))
end
abbrev paJ (vq b3 b8 : Nat) (V : Va) (its : List It) (k : Nat) : aw := ex fun ol : List rJ => ex fun ov : Value => lZ (ol.map rJ.pr = (its.take k).map (TC V.rd)) (aV [ah b8 [ov] 58, row 66 2 ov ol.length (ol.map rJ.cells).flatten, aV (ol.flatMap fg), ah b3 [pQ vq] 28])
theorem TO {G : Gh} {L : List aw} {w : World} {vq b3 b8 : Nat} {V : Va} {its : List It} {k : Nat} {ol : List rJ} {ov : Value} (h : ol.map rJ.pr = (its.take k).map (TC V.rd))
  (hw : an G (ah b8 [ov] 58 :: row 66 2 ov ol.length (ol.map rJ.cells).flatten :: aV (ol.flatMap fg) :: ah b3 [pQ vq] 28 :: L) w) : an G (paJ vq b3 b8 V its k :: L) w :=
 an.gh ol (an.gh ov (an.fJ h (an.bz (M := [_, _, _, _]) hw)))
theorem PG {G : Gh} {L : List aw} {w : World} {vq b3 b8 : Nat} {V : Va} {its : List It} {k : Nat} (hw : an G (paJ vq b3 b8 V its k :: L) w) : ∃ (ol : List rJ) (ov : Value), ol.map rJ.pr = (its.take k).map (TC V.rd) /\ an G (ah b8 [ov] 58 :: row 66 2 ov ol.length (ol.map rJ.cells).flatten :: aV (ol.flatMap fg) :: ah b3 [pQ vq] 28 :: L) w := by
 obtain ⟨ol, hw⟩ := hw.fD;obtain ⟨ov, hw⟩ := hw.fD;obtain ⟨h, hw⟩ := hw.eE;exact ⟨ol, ov, h, hw.cF⟩
section
variable {G : Gh} {L R : List aw} {w : World}
theorem HR {vq kk : Nat} {V : Va} {t : Tr} {r : yI} {its : List It} (hw : an G (cj vq V :: L) w) (aW : V.Ok) (hs : t.root ≠ 0 -> mV V.rd kk t.root /\ ∃ r', m7 V.rd kk t.root r') (m8 : its = if t.root = 0 then [] else l9 V.rd r.rg (t.root, kk)) (Oy : t.root ≠ 0 -> qC V.rd kk t.root <= 1000000000) (hl : ∀ n p i, V.rd n = some p -> (ga (oG p i) r.rg).lo.length <= 24) (hr : r.Ok L) (Aw : ∀ x ∈ its, (eS V.rd x).1 = 0) (hle : its.length <= 1000000000) :
  Calls prog 56 #[pQ vq, gQ (br t), gQ r.cells] w (bU fun u w' => ∃ (v : Value) (l : List rJ), u = .tuple #[v, iQ 0] /\ l.map rJ.pr = its.map (TC V.rd) /\ an G (row 66 2 v l.length (l.map rJ.cells).flatten :: aV (l.flatMap fg) :: cj vq V :: L) w') := by
 refine ad (args := [_, _, _]) func56 rfl ntmps56 rfl rfl ?_;refine z2 ?_;refine a9 rfl rfl rfl hw rfl fun w b3 hw => ?_;refine a9 rfl rfl rfl hw rfl fun w b4 hw => ?_;refine a9 rfl rfl rfl hw rfl fun w b5 hw => ?_;refine aF rfl x8 hw rfl fun w b6 hw => ?_;refine aF rfl nC hw rfl fun w b7 hw => ?_;refine z3 ?_;refine aF rfl x8 hw rfl fun w b8 hw => ?_;refine z4 ?_;refine lD (v := pQ vq) aA hw ?_;refine lA (l := br t) aX hw ?_;refine lA (l := r.cells) aY hw ?_;refine al rfl Gx rfl (HS (vq := vq) (t := t) (r := r) hw) rfl fun w S8 hv => ?_;obtain ⟨c3, c4, c5, rfl, hw⟩ := hv;refine z2 ?_;have hw := bI (an.bz (M := ([] : List rJ).flatMap fg) hw) 66 2;have hz := hw.b [ah b8 _ _, row 66 2 (nQ) 0 [], aV _, ah b3 _ _, ah c4 _ _, ah c3 _ _, ah c5 _ _, cj vq V, ah b4 _ _, ah b5 _ _, ah b6 _ _, ah b7 _ _];clear hw;have hw := TO (V := V) (its := its) (k := 0) (ol := []) (ov := nQ) rfl hz;refine SW (e₀ := [(3, pQ b3), (6, pQ b6), (7, pQ b7), (8, pQ b8)]) (fun k => paJ vq b3 b8 V its k) (fun _ => False) [] rfl Cu rfl sG rfl hw (fun k args y7 M h => by obtain ⟨x, R, _, rfl, _⟩ := h; rfl) (Ue (w := w) aW hs m8 Oy hl (hr.of sF)) ?_ ?_ ?_ ?_
 ·
  clear hw;intro l D1 o k args y7 M w hk oJ hw;obtain ⟨x, R, hx, rfl, rfl, hsk, RP, WQ⟩ := oJ;have Ym := gl hx;have Mh := Aw _ Ym;have hw : an G (paJ vq b3 b8 V its k :: pt l o :: dG D1 :: row 5 1 x.kv x.it.key.length (cD x.it.key) :: row 5 1 x.vv x.it.value.length (cD x.it.value) :: M) w := hw;have hw := hw.pick (.there (.there (.there (.there (.there WQ)))));have me : ∀ R, x.Ok (row 5 1 x.kv x.it.key.length (cD x.it.key) :: row 5 1 x.vv x.it.value.length (cD x.it.value) :: R) := fun R => ⟨ve rfl .here, ve rfl (.there .here), hsk, RP⟩
  obtain ⟨ol, ov, mF, hw⟩ := PG (hw.b [paJ vq b3 b8 V its k, cj vq V, pt l _, dG D1]);have Z2 := congrArg List.length mF;rw [bX, bX, fB, EW (Nat.le_of_lt hk)] at Z2;have hw := hw.b [cj vq V, ah b8 _ _, row 66 2 _ _ _, aV _, ah b3 _ _, pt l _, dG D1];obtain ⟨oa, oc, rfl⟩ := aP (hw.pick (A := row 66 2 ov _ _) pK);obtain ⟨xa, xc, xa2, xc2, Bt, Nr, WJ⟩ := (me _).form (hw.b [row 5 1 x.kv _ _, row 5 1 x.vv _ _]);refine z1 ?_;refine aF rfl eM hw rfl fun w b9 hw => ?_;refine aT (cs := x.cells) (l' := x.cells) rfl tV rfl rfl aD rfl (by rw [WJ]; intro u hu; simp at hu; rcases hu with rfl | rfl | rfl | rfl <;> rfl) hw pK (by simp [bO.cells]) rfl rfl (fun w hw => ?_);refine aC ?_;refine ⟨_, hw.pick (A := pt l o) pK, fun o' w hw => ?_⟩;refine z3 ?_;refine lD (v := pQ vq) aA hw ?_;refine lA (l := x.cells) aD hw ?_;refine al rfl yG rfl (A7 (x := x) (hw.b [cj vq V]) aW ((me _).of sF)) rfl fun w v20 hv => ?_;obtain ⟨u, rfl, hw⟩ := hv;rw [Mh];obtain ⟨ua, uc, rfl⟩ := aP hw;refine yb ?_;refine aE rfl (fun h1 => ?_) fun h1 => ?_
  ·
   exact absurd rfl h1
  refine z2 ?_;refine lD (v := .slice oa ol.length oc) gM hw ?_;refine z1 ?_;refine bt rfl rfl (ar.bL (v := .slice xa x.it.key.length xc) au hw pK (by rw [<-Bt]; rfl)) ?_;refine z1 ?_;refine aO (v := .agg #[.slice xa x.it.key.length xc, .slice ua (eS V.rd x.it).2.length uc]) rfl rfl (fun w => kR) ?_;refine fG (cs := [.slice xa x.it.key.length xc, .slice ua (eS V.rd x.it).2.length uc]) rfl nB u7 CL dM rfl rfl rfl hw rfl fun w YN hw => ?_;refine fH (m := ol.length) (k := 1) (news := [.slice xa x.it.key.length xc, .slice ua (eS V.rd x.it).2.length uc]) rfl nB u7 M4 CL rfl rfl hw pK (Rd.jE hw pK) rfl (by
    intro z hz; simp only [bQ, dz, or_false] at hz;rcases hz with rfl | rfl <;> rfl) mL oM rfl (fun w S7 hw => ?_)
  obtain ⟨na, nc, rfl⟩ := aP hw;refine bu (l' := [.slice na (ol.length + 1) nc]) rfl tV rfl rfl gM rfl hw pK rfl rfl rfl fun w hw => ?_;refine aC ?_;rw [Bt] at hw;have hz := (hw.b [ah YN _ _, ah b9 _ _, row 5 1 x.vv _ _, aV (ol.flatMap fg), row 5 1 (.slice xa _ xc) _ _, row 5 1 (.slice ua (eS V.rd x.it).2.length uc) _ _, ah b8 _ _, row 66 2 _ _ _]).tail.tail.tail;have hz := an.gp (an.gp hz);have e1 : (ol.flatMap fg ++ [row 5 1 (.slice xa x.it.key.length xc) x.it.key.length (cD x.it.key)]) ++ [row 5 1 (.slice ua (eS V.rd x.it).2.length uc) (eS V.rd x.it).2.length (cD (eS V.rd x.it).2)] = (ol ++ [(⟨TC V.rd x.it, .slice xa x.it.key.length xc, .slice ua (eS V.rd x.it).2.length uc⟩ : rJ)]).flatMap fg := by simp [fg, TC]
  have e2 : (ol.map rJ.cells).flatten ++ [.slice xa x.it.key.length xc, .slice ua (eS V.rd x.it).2.length uc] = ((ol ++ [(⟨TC V.rd x.it, .slice xa x.it.key.length xc, .slice ua (eS V.rd x.it).2.length uc⟩ : rJ)]).map rJ.cells).flatten := by simp [rJ.cells]
  have e3 : ol.length + 1 = (ol ++ [(⟨TC V.rd x.it, .slice xa x.it.key.length xc, .slice ua (eS V.rd x.it).2.length uc⟩ : rJ)]).length := by simp
  rw [e1, e2, e3] at hz;have hz := hz.b [cj vq V, ah b8 _ _, row 66 2 _ _ _, aV _, ah b3 _ _, pt l _, dG D1];have hz := an.Tb hz (.there (.there (.there (.there (.there (.there WQ))))));have hz := TO (V := V) (its := its) (k := k + 1) (by rw [cC hx, kz, kz, mF]; rfl) hz;exact hz
 ·
  clear hw;intro D1 w hw;obtain ⟨ol, ov, mF, hw⟩ := PG hw;rw [sX] at mF;obtain ⟨oa, oc, rfl⟩ := aP (hw.pick (A := row 66 2 ov _ _) pK);refine z2 ?_;refine lD (v := .slice oa ol.length oc) gM hw ?_;refine bu rfl tV rfl rfl gM rfl hw pK rfl rfl rfl fun w hw => ?_;refine bu rfl tV rfl rfl aB rfl hw pK rfl rfl rfl fun w hw => ?_;refine z2 ?_;refine bB rfl ?_;refine gz hw pK fun w hw => ?_;exact yX rfl ⟨_, rfl, (ar.bL gM hw pK rfl)⟩ ⟨_, rfl, (ar.bL aB hw pK rfl)⟩ ⟨.slice oa ol.length oc, ol, rfl, mF, (hw.b [ah b8 _ _, ah b3 _ _, ah c4 _ _, ah c3 _ _, ah c5 _ _, ah b4 _ _, ah b5 _ _, ah b6 _ _, ah b7 _ _]).tail.tail.tail.tail.tail.tail.tail.tail.tail⟩
 ·
  clear hw; intro D w hw; exact (gC hw).elim fun _ h => h.1.elim
 intro id A hA; cases hA
end
theorem C1 {rd : Int -> Option Pg} : ∀ {k : Nat} {n : Int}, mV rd k n -> ∀ y ∈ lx rd k n, (eS rd y).1 = 0
 | 0, n, h => by
  obtain ⟨p, hp, h1, h2⟩ := h;intro y hy;rw [lx, hp] at hy;exact h2 y hy
 | k + 1, n, h => by
  obtain ⟨p, hp, h1, h2⟩ := h;intro y hy;rw [lx, hp] at hy;obtain ⟨x, hx, hy⟩ := N0.1 hy;exact C1 (h2 x hx) y hy
theorem TZ {a : bW} {m : Nat} (h : a.length <= m) : (g9 a []).length <= m := by
 unfold g9;split
 ·exact dy _
 exact h
theorem Zq {V : Va} (aW : V.Ok) {n : Int} {p : Pg} {i : Nat} (hp : V.rd n = some p) : (ga (oG p i) pX).lo.length <= 24 := by
 refine TZ ?_;unfold oG tT;cases hx : p.items[i]? with
 | none => simp
 | some x => exact y5 (Va.BJ aW n p hp) x (gl hx)
def Q8 : yI := ⟨pX, nQ, nQ⟩
theorem V4 (L : List aw) : Q8.Ok L := ⟨Du, Du, mW, mW⟩
theorem Oo {rd : Int -> Option Pg} {k : Nat} {n : Int} (h : m7 rd k n pX) : l9 rd pX (n, k) = lx rd k n := by
 unfold l9;exact List.filter_eq_self.2 fun y hy => decide_eq_true (s5 h y hy)
section
variable {G : Gh} {L R : List aw} {w : World}
theorem Bq.swap {P : Program} {gf : FuncId} {lb : List Value} {A B : aw} {Lx : List aw} {n : Nat} {JG : Nat -> List Value -> List aw -> Prop} (h : Bq P gf lb G (A :: B :: L) w n JG (A :: B :: Lx)) : Bq P gf lb G (B :: A :: L) w n JG (B :: A :: Lx) := fun l J Jx w' hy hw => by
 have hz : an G (J 0 :: A :: B :: L) w' := hw.GQ (As := [J 0, A]) (.cons .here (.cons (.there .here) .nil));refine Calls.mono (h l J Jx w' hy hz) fun en CP ⟨v, hv, hR⟩ => ⟨v, hv, ?_⟩
 rcases hR with hR | hR
 ·exact .inl (hR.GQ (As := [J n, B]) (.cons .here (.cons (.there .here) .nil)))
 exact .inr (hR.GQ (As := [Jx, B]) (.cons .here (.cons (.there .here) .nil)))
theorem Yh {v : Value} {l : List rJ} {L R R' : List aw} (hle : l.length <= 1000000000) (p1 : cG (row 66 2 v l.length (l.map rJ.cells).flatten) L R) (p2 : cG (aV (l.flatMap fg)) L R') : U8 L v l := by
 have key : ∀ x ∈ l, ∃ B C, l.flatMap fg = B ++ (fg x ++ C) := fun x hx => by
  obtain ⟨B, C, rfl⟩ := V6 hx;exact ⟨B.flatMap fg, C.flatMap fg, by simp⟩
 refine ⟨((g7.row sM (fun r hr => by obtain ⟨x, -, rfl⟩ := dE.1 hr; rfl)).head _).pick p1, fun x hx => ?_, fun x hx => ?_, hle⟩
 ·obtain ⟨B, C, e⟩ := key x hx;exact ((aG.j7 (A := fg x) (ve rfl .here) e).head _).pick p2
 obtain ⟨B, C, e⟩ := key x hx;exact ((aG.j7 (A := fg x) (ve rfl (.there .here)) e).head _).pick p2
theorem Kn {vq : Nat} {V : Va} {t : Tr} (hw : an G (cj vq V :: L) w) (aW : V.Ok) (ht : jJ t \/ ∃ M, O8 V.rd t M) :
  Calls prog 41 #[pQ vq, gQ (br t), gQ Q8.cells] w (bU fun u w' => ∃ (b1 b2 : Nat) (v : Value) (l : List rJ), u = .func (.func 183) #[] #[pQ b2] /\ (l.map rJ.pr = fj V.rd t /\ l.length <= 1000000000) /\ an G (ah b2 [.func (.func 184) #[] #[pQ b1]] 215 :: ah b1 [v] 58 :: row 66 2 v l.length (l.map rJ.cells).flatten :: aV (l.flatMap fg) :: cj vq V :: L) w') := by
 obtain ⟨kk, Jg⟩ : ∃ kk, kk = (t.aQ - 1).toNat := ⟨_, rfl⟩;have jB : t.root ≠ 0 -> ∃ M, O8 V.rd t M := fun h => ht.resolve_left fun hn => h hn.1
 have hs : t.root ≠ 0 -> mV V.rd kk t.root /\ ∃ r', m7 V.rd kk t.root r' := fun h => by
  obtain ⟨M, hM⟩ := jB h;rw [Jg]; exact ⟨hM.sound, _, hM.keys⟩
 obtain ⟨its, m8⟩ : ∃ its, its = if t.root = 0 then [] else l9 V.rd Q8.rg (t.root, kk) := ⟨_, rfl⟩
 have YA : its = if t.root = 0 then [] else lx V.rd kk t.root := by
  rw [m8]
  by_cases h : t.root = 0
  ·rw [ao h, ao h]
  obtain ⟨M, hM⟩ := jB h;rw [aj h, aj h, Jg];exact Oo hM.keys
 have Oy : t.root ≠ 0 -> qC V.rd kk t.root <= 1000000000 := fun h => by
  obtain ⟨M, hM⟩ := jB h;have h1 := hM.num;have h2 := Va.yU aW hM.nd hM.th;rw [Jg]; omega
 have Aw : ∀ x ∈ its, (eS V.rd x).1 = 0 := fun x hx => by
  rw [YA] at hx
  by_cases h : t.root = 0
  ·rw [ao h] at hx; simp at hx
  rw [aj h] at hx; exact C1 (hs h).1 x hx
 have Ej : fj V.rd t = its.map (TC V.rd) := by
  unfold fj;rw [YA, <-Jg]
  by_cases h : t.root = 0
  ·rw [ao h, ao h]; rfl
  rw [aj h, aj h, F6]
 have hle : its.length <= 1000000000 := by
  have e := congrArg List.length Ej;rw [bX] at e;rw [<-e];unfold fj
  by_cases h : t.root = 0
  ·rw [ao h]; simp
  obtain ⟨M, hM⟩ := jB h;rw [aj h];have h1 := hM.items;have h2 := hM.many;have h3 := Va.yU aW hM.nd hM.th;omega
 refine ad (args := [_, _, _]) func41 rfl ntmps41 rfl rfl ?_;refine z2 ?_;refine a9 rfl rfl rfl hw rfl fun w b4 hw => ?_;refine a9 rfl rfl rfl hw rfl fun w b5 hw => ?_;refine z5 ?_;refine lA (l := br t) aX hw ?_;refine lA (l := Q8.cells) aY hw ?_;refine al rfl Gw rfl (HR (kk := kk) (r := Q8) (its := its) (hw.b [cj vq V]) aW hs m8 Oy (fun n p i hp => Zq aW hp) (V4 _) Aw hle) rfl fun w NL hv => ?_;obtain ⟨v, l, rfl, hl, hw⟩ := hv;have nM := congrArg List.length hl;rw [bX, bX] at nM;obtain ⟨oa, oc, rfl⟩ := aP hw;refine z9 ?_;refine al rfl mv rfl (mH hw) rfl fun w v17 hv => ?_;obtain ⟨b1, rfl, hw⟩ := hv;refine al rfl H9 rfl (Km hw) rfl fun w ED hv => ?_;obtain ⟨b2, rfl, hw⟩ := hv;refine z3 ?_;exact aK rfl rfl rfl ⟨b1, b2, .slice oa l.length oc, l, rfl, ⟨by rw [hl, Ej], oM⟩, (hw.b [ah b4 _ _, ah b5 _ _]).tail.tail⟩
theorem WB {b1 b2 : Nat} {v : Value} {l : List rJ} (hle : l.length <= 1000000000) (nM : ∀ x ∈ l, bP x.pr.1 /\ bP x.pr.2) :
  Bq prog 183 [pQ b2] G (ah b2 [.func (.func 184) #[] #[pQ b1]] 215 :: ah b1 [v] 58 :: row 66 2 v l.length (l.map rJ.cells).flatten :: aV (l.flatMap fg) :: L) w l.length (abO l)
   (ah b2 [.func (.func 184) #[] #[pQ b1]] 215 :: ah b1 [v] 58 :: row 66 2 v l.length (l.map rJ.cells).flatten :: aV (l.flatMap fg) :: L) :=
 WA (gf := 184) (lb := [pQ b1]) lE nM fun X w =>
  Bq.swap (J9 (L := X :: row 66 2 v l.length (l.map rJ.cells).flatten :: aV (l.flatMap fg) :: L) (Yh hle (.there .here) (.there (.there .here))) fun b c => Yh hle (.there (.there (.there .here))) (.there (.there (.there (.there .here)))))
end
def fW (A : List Int) : List Int := A.foldl (fun D k => if k ∈ D then D else D ++ [k]) []
theorem AL (A : List Int) (k : Int) : fW (A ++ [k]) = if k ∈ fW A then fW A else fW A ++ [k] := by
 unfold fW; rw [List.foldl_append]; rfl
theorem AK : ∀ (n : Nat) (A : List Int), A.length = n -> (∀ a, a ∈ fW A ↔ a ∈ A) /\ (fW A).Nodup := by
 intro n
 induction n with
 | zero => intro A h; rw [Ae h]; exact ⟨fun a => by simp [fW], by simp [fW]⟩
 | succ n ih =>
  intro A h;obtain ⟨B, k, rfl⟩ : ∃ B k, A = B ++ [k] := ⟨A.dropLast, A.getLast (by intro he; subst he; simp at h), (We _).symm⟩;obtain ⟨h1, h2⟩ := ih B (by simpa using h);rw [AL]
  by_cases hk : k ∈ fW B
  ·rw [ao hk];refine ⟨fun a => ?_, h2⟩;rw [h1, gF];exact ⟨.inl, fun h => h.elim id fun h => by simp at h; subst h; exact (h1 _).1 hk⟩
  rw [aj hk];refine ⟨fun a => by rw [gF, gF, h1], ?_⟩;rw [N2];exact ⟨h2, by simp, fun a ha b hb => by simp at hb; subst hb; intro e; subst e; exact hk ha⟩
theorem vC {A : List Int} {a : Int} : a ∈ fW A ↔ a ∈ A := (AK _ A rfl).1 a
theorem yo (A : List Int) : (fW A).Nodup := (AK _ A rfl).2
def PK (A : List Int) : KV := (fW A).map fun n => (n, iQ ((A.count n : Nat) : Int))
theorem L4 (A : List Int) : (PK A).map (·.1) = fW A := by simp [PK, Function.comp_def]
theorem Ap (A : List Int) (k : Int) : cO (PK A) k = if k ∈ A then some (iQ ((A.count k : Nat) : Int)) else none := by
 by_cases h : k ∈ A
 ·rw [ao h];exact IY (by rw [L4]; exact yo A) (dE.2 ⟨k, vC.2 h, rfl⟩)
 rw [aj h, Fl, L4, vC]; exact h
theorem np (A : List Int) (k : Int) : (cO (PK A) k).getD (iQ 0) = iQ ((A.count k : Nat) : Int) := by
 rw [Ap]
 by_cases h : k ∈ A
 ·rw [ao h]; rfl
 rw [aj h, Wf h]; rfl
theorem Ma {f : Int -> Value} {k : Int} {v : Value} : ∀ {D : List Int}, D.Nodup -> lr (D.map fun n => (n, f n)) k v = if k ∈ D then D.map fun n => (n, if n = k then v else f n) else (D.map fun n => (n, f n)) ++ [(k, v)]
 | [], _ => by simp [lr]
 | d :: D, h => by
  rw [xr] at h;have ih := Ma (f := f) (k := k) (v := v) h.2;simp only [cH, lr]
  by_cases hk : k = d
  ·subst hk;rw [ao rfl, ao (iD ..), ao rfl]
   congr 1
   refine LH fun n hn => ?_
   rw [aj (by intro e; subst e; exact h.1 hn)]
  rw [aj hk, ih]
  by_cases hD : k ∈ D
  ·rw [ao hD, ao (jN _ hD), aj (fun e => hk e.symm)]
  rw [aj hD, aj (by simp [hk, hD])]; rfl
theorem TY (A : List Int) (k : Int) : lr (PK A) k (iQ ((A.count k : Nat) + 1 : Int)) = PK (A ++ [k]) := by
 unfold PK;rw [Ma (yo A), AL];have hc : ∀ n, n ≠ k -> (A ++ [k]).count n = A.count n := fun n hn => by rw [List.count_append, List.count_singleton]; simp [Ne.symm hn]
 have Vr : (A ++ [k]).count k = A.count k + 1 := by rw [List.count_append, List.count_singleton]; simp
 by_cases hk : k ∈ fW A
 ·rw [ao hk, ao hk];refine LH fun n hn => ?_
  by_cases he : n = k
  ·subst he; rw [ao rfl, Vr]; rfl
  rw [aj he, hc n he]
 rw [aj hk, aj hk, kz]
 congr 1
 ·refine LH fun n hn => ?_
  rw [hc n (by intro e; subst e; exact hk hn)]
 rw [cH, Vr]; rfl
structure NC (rd : Int -> Option Pg) (roots W st A : List Int) : Prop where
 nd : (W ++ st).Nodup
 mem : ∀ a, a ∈ A ↔ a ∈ W \/ a ∈ st
 min : ∀ U : Int -> Prop, (∀ r ∈ roots, U r) -> (∀ n, U n -> ∀ k ∈ fC rd n, U k) -> ∀ a ∈ A, U a
theorem NC.start (rd : Int -> Option Pg) (roots : List Int) : NC rd roots [] [] [] := ⟨by simp, fun a => by simp, fun U _ _ a h => by simp at h⟩
theorem NC.arrow {rd : Int -> Option Pg} {roots W st A : List Int} {k : Int} (h : NC rd roots W st A) (hk : ∀ U : Int -> Prop, (∀ r ∈ roots, U r) -> (∀ n, U n -> ∀ k ∈ fC rd n, U k) -> U k) : NC rd roots W (if A.count k = 0 then st ++ [k] else st) (A ++ [k]) := by
 have RT : ∀ U : Int -> Prop, (∀ r ∈ roots, U r) -> (∀ n, U n -> ∀ k ∈ fC rd n, U k) -> ∀ a ∈ A ++ [k], U a := fun U h1 h2 a ha => by
  rcases gF.1 ha with ha | ha
  ·exact h.min U h1 h2 a ha
  simp at ha; subst ha; exact hk U h1 h2
 by_cases hm : k ∈ A
 ·rw [aj (by have := List.count_pos_iff.2 hm; omega)];refine ⟨h.nd, fun a => ?_, RT⟩;rw [gF, <-h.mem a];exact ⟨fun h => h.elim id fun h => by simp at h; subst h; exact hm, .inl⟩
 rw [ao (Wf hm)];refine ⟨?_, fun a => ?_, RT⟩
 ·rw [<-pZ, N2];refine ⟨h.nd, by simp, fun a ha b hb => ?_⟩;simp at hb; subst hb; intro e; subst e;exact hm ((h.mem a).2 (gF.1 ha))
 rw [gF, gF, h.mem a, or_assoc]
theorem NC.visit {rd : Int -> Option Pg} {roots W st A : List Int} {n : Int} (h : NC rd roots W (st ++ [n]) A) : NC rd roots (W ++ [n]) st A := by
 refine ⟨?_, fun a => ?_, h.min⟩
 ·have h1 := h.nd;rw [pZ];refine (List.Perm.nodup_iff ?_).1 h1;exact List.Perm.append_left W (List.perm_append_comm)
 rw [h.mem a, gF, gF]
 constructor
 ·rintro (h | h | h)
  ·exact .inl (.inl h)
  ·exact .inr h
  exact .inl (.inr h)
 rintro ((h | h) | h)
 ·exact .inl h
 ·exact .inr (.inr h)
 exact .inr (.inl h)
theorem NC.led {rd : Int -> Option Pg} {roots W A : List Int} (h : NC rd roots W [] A) (ha : A = roots ++ W.flatMap (fC rd)) : Vb rd roots W A := by
 have h1 := h.nd;rw [pz] at h1;exact ⟨h1, ha, fun a hx => ((h.mem a).1 hx).resolve_right sM, fun n hn => (h.mem n).2 (.inl hn), fun U hr hc n hn => h.min U hr hc n ((h.mem n).2 (.inl hn))⟩
theorem NC.sub {rd : Int -> Option Pg} {roots W st A U : List Int} (h : NC rd roots W st A) (h1 : ∀ r ∈ roots, r ∈ U) (h2 : ∀ n ∈ U, ∀ k ∈ fC rd n, k ∈ U) : ∀ a ∈ A, a ∈ U := h.min (· ∈ U) h1 h2
theorem RH {rd : Int -> Option Pg} (h : CG rd) (n : Int) : (fC rd n).length <= 8 := by
 unfold fC;cases hr : rd n with
 | none => simp
 | some p => exact Fo (h n p hr)
theorem Fq {rd : Int -> Option Pg} (h : CG rd) : ∀ W : List Int, (W.flatMap (fC rd)).length <= 8 * W.length
 | [] => by simp
 | n :: W => by
  have h1 := Fq h W;have h2 := RH h n;rw [LG, de, g5]; omega
theorem ud (A : List Int) (k : Int) : (A ++ [k]).count k = A.count k + 1 := by rw [List.count_append, List.count_singleton]; simp
section
variable {G : Gh} {L R : List aw} {w : World}
theorem MN {vq : Nat} {V : Va} {lv : Value} {ts : List Tr} {U : List Int} (hw : an G (cj vq V :: L) w) (aW : V.Ok) (kl : aG L (g7 3 lv (ts.map br))) (nM : ts.length <= 1000) (hr0 : ∀ t ∈ ts, 0 <= t.root) (VD : ∀ r ∈ dK ts, r ∈ U) (UJ : ∀ n ∈ U, V.rd n ≠ none) (VC : ∀ n ∈ U, ∀ k ∈ fC V.rd n, k ∈ U) :
  Calls prog 101 #[pQ vq, lv] w (bU fun u w' => ∃ m W A, u = .tuple #[.map (some m), iQ 0] /\ Vb V.rd (dK ts) W A /\ an G (bH m (PK A) :: cj vq V :: L) w') := by
 obtain ⟨la, lc, PX, -, -⟩ := (kl.at hw.tail).form;rw [bX] at PX;subst PX;refine ad (args := [_, _]) func101 rfl ntmps101 rfl rfl ?_;refine z7 ?_;refine Ew rfl hw rfl fun w mm hw => ?_;refine mN ?_;refine eJ rfl kR nA rfl ?_;refine z3 ?_;have hw := bI hw 3 1;have hz := hw.b [bH mm _, row 3 1 (nQ) _ _, cj vq V];clear hw;have hw : an G (bH mm (PK []) :: row 3 1 (nQ) ([] : List Int).length (bg []) :: cj vq V :: L) w := hz;refine bF (fun m e w => ∃ (j : Nat) (st A : List Int) (tv : Value), j <= ts.length /\ m = ts.length - j /\ e = [(0, pQ vq), (6, .map (some mm)), (7, tv), (16, .slice la ts.length lc), (17, iQ ts.length), (18, iQ j)] /\ (NC V.rd (dK ts) [] st A /\ A = dK (ts.take j)) /\ an G (bH mm (PK A) :: row 3 1 tv st.length (bg st) :: cj vq V :: L) w)
  (m := ts.length) sB
  ⟨0, [], [], _, dy _, rfl, rfl, ⟨NC.start _ _, rfl⟩, hw⟩ ?_
 rintro m e w ⟨j, st, A, tv, hj, rfl, rfl, ⟨Aw, hA⟩, hw⟩;have hAl : A.length <= 1000 := by rw [hA]; have := CT (ts.take j); rw [fB] at this; omega
 have adV : st.length <= 65536 := by
  have := Va.yU aW (met := st) (by have := Aw.nd; simpa using this) (fun n hn => UJ n (Aw.sub VD VC n ((Aw.mem n).2 (.inr hn))));exact this
 refine z5 ?_;refine aE rfl (fun h1 => ?_) fun h1 => ?_
 ·
  have Vt : j < ts.length := oM;obtain ⟨t, ht⟩ : ∃ t, ts[j]? = some t := ⟨_, dm Vt⟩;have tU : (ts.map br)[j]? = some (br t) := by rw [dg, ht]; rfl
  have hr1 := hr0 t (gl ht);have gN := List.count_le_length (a := t.root) (l := A);have Ny : dK (ts.take (j + 1)) = A ++ (if 0 < t.root then [t.root] else []) := by rw [cC ht, JT, hA]
  obtain ⟨lb, lo, hla⟩ := ((kl.of sF).at hw).nn (by rw [bX]; omega);cases hla;refine z5 ?_;refine eY rfl nA u6 rfl rfl ⟨oM, oM⟩ ?_;refine bt rfl rfl (ar.many (cs := br t) aX rfl (by rw [ez]; exact ((kl.of sF).at hw).at tU)) ?_;refine aF rfl yK hw rfl fun w b9 hw => ?_;refine aT (cs := br t) (l' := br t) rfl tV rfl rfl aX rfl (by intro u hu; simp [br] at hu; rcases hu with rfl | rfl | rfl <;> rfl) hw pK (by simp [br]) rfl rfl (fun w hw => ?_);refine z5 ?_;refine lD (v := iQ t.root) ag hw ?_;refine z2 ?_;refine aE rfl (fun h2 => ?_) fun h2 => ?_
  ·
   refine z5 ?_;have hA2 : dK (ts.take (j + 1)) = A := by rw [Ny, aj oM, pz]
   exact ⟨ts.length - (j + 1), oM, [(0, _), (6, _), (7, _), (16, _), (17, _), (18, iQ (j + 1 : Nat))], sB, j + 1, st, A, _, oM, rfl, rfl, ⟨Aw, hA2.symm⟩, (hw.b [ah b9 _ _]).tail⟩
  have hA2 : dK (ts.take (j + 1)) = A ++ [t.root] := by rw [Ny, ao oM]
  have hrt : t.root ∈ dK ts := by
   unfold dK;exact Dn.2 ⟨dE.2 ⟨t, gl ht, rfl⟩, by simp; omega⟩
  have WW := Aw.arrow (k := t.root) (fun U h1 _ => h1 _ hrt);refine z5 ?_;refine lD (v := iQ t.root) ag hw ?_;refine u0 (v0 := iQ ((A.count t.root : Nat) : Int)) rfl fa cP q9 rfl rfl hw pK (np _ _) ?_;refine z1 ?_;refine Ld rfl tV fa cP rfl rfl rfl hw pK rfl fun w hw => ?_;rw [TY] at hw;refine z5 ?_;refine lD (v := iQ t.root) ag hw ?_;refine u0 (v0 := iQ ((A.count t.root : Nat) + 1 : Int)) rfl fa cP q9 rfl rfl hw pK (by rw [np, ud]; rfl) ?_;refine z2 ?_;refine aE rfl (fun h3 => ?_) fun h3 => ?_
  ·
   have h0 : A.count t.root = 0 := oM;rw [ao h0] at WW;refine z3 ?_;refine lD (v := iQ t.root) ag hw ?_;refine fG (cs := [iQ t.root]) rfl bp cm gZ dM rfl rfl rfl hw rfl fun w b38 hw => ?_;refine fH (m := st.length) (k := 1) (news := [iQ t.root]) rfl bp cm ni gZ rfl rfl hw pK (Rd.jE hw pK) rfl (by intro u hu; simp at hu; subst hu; rfl) mL oM rfl (fun w X9 hw => ?_);refine z6 ?_;have e1 : bg st ++ [iQ t.root] = bg (st ++ [t.root]) := by simp [bg]
   have e2 : st.length + 1 = (st ++ [t.root]).length := by simp
   rw [e1, e2] at hw;exact ⟨ts.length - (j + 1), oM, [(0, _), (6, _), (7, X9), (16, _), (17, _), (18, iQ (j + 1 : Nat))], sB, j + 1, st ++ [t.root], A ++ [t.root], _, oM, rfl, rfl, ⟨WW, hA2.symm⟩, (hw.b [ah b38 _ _, ah b9 _ _, bH mm _, row 3 1 X9 _ _]).tail.tail⟩
  have h0 : ¬ A.count t.root = 0 := oM;rw [aj h0] at WW;refine z5 ?_;exact ⟨ts.length - (j + 1), oM, [(0, _), (6, _), (7, _), (16, _), (17, _), (18, iQ (j + 1 : Nat))], sB, j + 1, st, A ++ [t.root], _, oM, rfl, rfl, ⟨WW, hA2.symm⟩, (hw.b [ah b9 _ _, bH mm _, row 3 1 tv _ _]).tail⟩
 have Vu : j = ts.length := oM;rw [Vu, sX] at hA;refine z3 ?_;refine bF (fun m e w => ∃ (W st A : List Int) (tv : Value), m = 65536 - W.length /\ e = [(0, pQ vq), (6, .map (some mm)), (7, tv)] /\ (NC V.rd (dK ts) W st A /\ A = dK ts ++ W.flatMap (fC V.rd)) /\ an G (bH mm (PK A) :: row 3 1 tv st.length (bg st) :: cj vq V :: L) w)
  (m := 65536) sB
  ⟨[], st, A, _, rfl, rfl, ⟨Aw, by rw [hA]; simp⟩, hw⟩ ?_
 rintro m e w ⟨W, st, A, tv, rfl, rfl, ⟨Aw, hA⟩, hw⟩;obtain ⟨ta, tc, rfl⟩ := aP (hw.pick (A := row 3 1 tv _ _) pK);refine z7 ?_;refine aE rfl (fun h4 => ?_) fun h4 => ?_
 ·
  obtain ⟨jj, n, rfl⟩ : ∃ jj x, st = jj ++ [x] := ⟨st.dropLast, st.getLast (by intro h; subst h; simp at h4), (We _).symm⟩;have hnU : n ∈ U := Aw.sub VD VC n ((Aw.mem n).2 (.inr sM));obtain ⟨p, qE⟩ : ∃ p, V.rd n = some p := Zj.1 (UJ n hnU);have PX := Aw.visit;have hWl : (W ++ [n]).length + jj.length <= 65536 := by
   have := Va.yU aW (met := (W ++ [n]) ++ jj) PX.nd (fun n hn => UJ n (PX.sub VD VC n ((PX.mem n).2 (gF.1 hn))));rw [de] at this;exact this
  have Jg : fC V.rd n = cL p := by unfold fC; rw [qE]
  have Ur := CT ts;have hWk := Fq (Va.BJ aW) W;have hAl : A.length <= 1000 + 8 * W.length := by rw [hA, de]; omega
  rw [de, mG] at hWl;have hlen : (jj ++ [n]).length = jj.length + 1 := by simp
  rw [hlen] at hw;rw [hlen];have ZO : (bg (jj ++ [n]))[jj.length]? = some (iQ n) := by simp [bg]
  have hw := hw.b [row 3 1 (.slice ta _ tc) _ _];obtain ⟨-, tb, -, HA, htc, -⟩ := hY hw oM;have Um : ∀ R, aG (row 3 1 (sQ tb (jj.length + 1) tc) (jj.length + 1) (bg (jj ++ [n])) :: R) (qx (sQ tb (jj.length + 1) tc) (bg (jj ++ [n]))) := fun R => by
   have h := uk (v := sQ tb (jj.length + 1) tc) (c := jj ++ [n]) (R := R);rw [hlen] at h;exact h
  rw [HA] at hw;rw [HA];have hw := hw.b [row 3 1 (sQ tb _ tc) _ _, bH mm _];have VE : (((jj.length + 1 : Nat) : Int) - 1).toNat = jj.length := oM;refine SM ?_;refine cR rfl bp cm rfl rfl ⟨oM, oM⟩ ?_;refine bt rfl rfl (ar.one (v := iQ n) ag ((((Um _).of sF).at hw).at (by rw [VE]; exact ZO))) ?_;refine al rfl cE rfl (gi (n := n) (hw.b [cj vq V]) aW) rfl fun w v53 hv => ?_;obtain ⟨p', er, A', rfl, jd, iT, hw⟩ := hv;obtain ⟨Dw, rfl, rfl, gG⟩ := iT.resolve_left (fun h => by rw [h.1] at qE; cases qE);refine z3 ?_;refine aF rfl bE hw rfl fun w mB hw => ?_;refine aT (cs := p'.cells) (l' := p'.cells) rfl tV rfl rfl ae rfl jd hw pK (by simp [bT.cells]) rfl kR fun w hw => ?_;rw [qE] at Dw
  obtain rfl : p = p'.pg := Option.some.inj Dw;refine z8 ?_;refine aE rfl (fun h5 => ?_) fun h5 => ?_
  ·
   exact absurd rfl h5
  refine z5 ?_;refine u1 rfl bp Pp rfl sM rfl ⟨oM, oM⟩ ?_;rw [VE];have hw := hw.b [row 3 1 (sQ tb _ tc) _ _];have hw := JS hw (j := jj.length) oM;have ZP : (bg (jj ++ [n])).take jj.length = bg jj := by simp [bg]
  rw [ZP] at hw;refine z4 ?_;refine lA (l := p'.cells) ae hw ?_;refine al rfl nv rfl (pC (p := p') hw (aS gG pK)) rfl fun w v63 hv => ?_;have hw : an G (row 3 1 v63 (cL p'.pg).length (bg (cL p'.pg)) :: _) _ := hv;have RU := Fo (Va.BJ aW n _ qE);obtain ⟨ka, kc, rfl⟩ := aP hw;refine z4 ?_;have hz := hw.b [row 3 1 (.slice ka _ kc) _ _, bH mm _, row 3 1 (sQ tb _ tc) _ _, ah mB _ _, cB p', cj vq V];clear hw;have hw := hz;clear hz;refine bF (fun m e w => ∃ (j : Nat) (Ps A' : List Int) (tv : Value), j <= (cL p'.pg).length /\ m = (cL p'.pg).length - j /\ e = [(0, pQ vq), (6, .map (some mm)), (7, tv), (63, .slice ka (cL p'.pg).length kc), (64, iQ (cL p'.pg).length), (65, iQ j)] /\ (NC V.rd (dK ts) (W ++ [n]) Ps A' /\ A' = A ++ (cL p'.pg).take j) /\ an G (row 3 1 (.slice ka (cL p'.pg).length kc) (cL p'.pg).length (bg (cL p'.pg)) :: bH mm (PK A') :: row 3 1 tv Ps.length (bg Ps) :: ah mB p'.cells 104 :: cB p' :: cj vq V :: L) w)
   (m := (cL p'.pg).length) sB
   ⟨0, jj, A, _, dy _, rfl, rfl, ⟨PX, by simp⟩, hw⟩ ?_
  rintro m e w ⟨j, Ps, A', tv, hj, rfl, rfl, ⟨Uy, hA'⟩, hw⟩;refine z5 ?_;refine aE rfl (fun h6 => ?_) fun h6 => ?_
  ·
   have Vt : j < (cL p'.pg).length := oM;obtain ⟨k, hk⟩ : ∃ k, (cL p'.pg)[j]? = some k := ⟨_, dm Vt⟩;have OB : (bg (cL p'.pg))[j]? = some (iQ k) := by simp [bg, hk]
   have hA2 : A ++ (cL p'.pg).take (j + 1) = A' ++ [k] := by rw [cC hk, hA', pZ]
   have hA3 : A'.length <= 1000 + 8 * W.length + 8 := by rw [hA', de, fB]; omega
   have gN := List.count_le_length (a := k) (l := A');have iv : (W ++ [n]).length + Ps.length <= 65536 := by
    have := Va.yU aW (met := (W ++ [n]) ++ Ps) Uy.nd (fun n hn => UJ n (Uy.sub VD VC n ((Uy.mem n).2 (gF.1 hn))));rw [de] at this;exact this
   have WV := Uy.arrow (k := k) (fun U h1 h2 => h2 n (Uy.min U h1 h2 n ((Uy.mem n).2 (.inl sM))) k (by rw [Jg]; exact gl hk));obtain ⟨kb, ko, hka⟩ := (((uk (v := .slice ka (cL p'.pg).length kc) (c := cL p'.pg)).of sF).at hw).nn (by rw [bC]; omega);cases hka;refine z5 ?_;refine cR rfl bp cm rfl rfl ⟨oM, oM⟩ ?_;refine bt rfl rfl (ar.one (v := iQ k) ag ((((uk (v := .slice (some ⟨kb, ko, none⟩) (cL p'.pg).length kc) (c := cL p'.pg)).of sF).at hw).at (by rw [ez]; exact OB))) ?_;refine z6 ?_;refine u0 (v0 := iQ ((A'.count k : Nat) : Int)) rfl fa cP q9 rfl rfl hw pK (np _ _) ?_;refine z1 ?_;refine Ld rfl tV fa cP rfl rfl rfl hw pK rfl fun w hw => ?_;rw [TY] at hw;refine z5 ?_;refine u0 (v0 := iQ ((A'.count k : Nat) + 1 : Int)) rfl fa cP q9 rfl rfl hw pK (by rw [np, ud]; rfl) ?_;refine z2 ?_;refine aE rfl (fun h7 => ?_) fun h7 => ?_
   ·
    have h0 : A'.count k = 0 := oM;rw [ao h0] at WV;refine z3 ?_;refine fG (cs := [iQ k]) rfl bp cm gZ dM rfl rfl rfl hw rfl fun w b79 hw => ?_;refine fH (m := Ps.length) (k := 1) (news := [iQ k]) rfl bp cm ni gZ rfl rfl hw pK (Rd.jE hw pK) rfl (by intro u hu; simp at hu; subst hu; rfl) mL oM rfl (fun w v80 hw => ?_);refine z6 ?_;have e1 : bg Ps ++ [iQ k] = bg (Ps ++ [k]) := by simp [bg]
    have e2 : Ps.length + 1 = (Ps ++ [k]).length := by simp
    rw [e1, e2] at hw;exact ⟨(cL p'.pg).length - (j + 1), oM, [(0, _), (6, _), (7, v80), (63, _), (64, _), (65, iQ (j + 1 : Nat))], sB, j + 1, Ps ++ [k], A' ++ [k], _, oM, rfl, rfl, ⟨WV, hA2.symm⟩, (hw.b [ah b79 _ _, row 3 1 (.slice (some ⟨kb, ko, none⟩) _ kc) _ _, bH mm _, row 3 1 v80 _ _]).tail⟩
   have h0 : ¬ A'.count k = 0 := oM;rw [aj h0] at WV;refine z5 ?_;exact ⟨(cL p'.pg).length - (j + 1), oM, [(0, _), (6, _), (7, _), (63, _), (64, _), (65, iQ (j + 1 : Nat))], sB, j + 1, Ps, A' ++ [k], _, oM, rfl, rfl, ⟨WV, hA2.symm⟩, hw.b [row 3 1 (.slice (some ⟨kb, ko, none⟩) _ kc) _ _]⟩
  refine z1 ?_;have Vu : j = (cL p'.pg).length := oM;rw [Vu, sX] at hA';refine ⟨65536 - (W ++ [n]).length, by rw [de, mG]; omega, [(0, _), (6, _), (7, _)], sB, W ++ [n], Ps, A', _, rfl, rfl, ⟨Uy, ?_⟩, (hw.b [row 3 1 (.slice ka _ kc) _ _, ah mB _ _, cB p']).tail.tail.tail⟩;rw [hA', hA, LK, pZ];simp [Jg]
 refine z8 ?_;exact cz rfl rfl rfl rfl (by
 have hz : st = [] := Ae oM;subst hz;exact ⟨mm, W, A, rfl, Aw.led hA, (hw.b [row 3 1 (.slice ta _ tc) _ _]).tail⟩)
end
def UW (N : Nat) (A vis : List Int) : List Int := (List.range N).map fun i : Nat => if (i : Int) + 1 ∈ vis then ((A.count ((i : Int) + 1) : Nat) : Int) else 0
theorem Xj (N : Nat) (A vis : List Int) : (UW N A vis).length = N := by simp [UW]
theorem Xi (N : Nat) (A : List Int) : UW N A [] = List.replicate N 0 := by
 unfold UW;refine LF fun i => ?_
 rw [dg, Wb]
 by_cases h : i < N
 ·rw [LI h, ao h]; simp
 rw [Dp (by simpa using Nat.le_of_not_lt h), aj h]; rfl
theorem Xh {N : Nat} {A vis : List Int} {k : Int} (h : 1 <= k /\ k <= N) : (UW N A vis).set (k - 1).toNat ((A.count k : Nat) : Int) = UW N A (k :: vis) := by
 obtain ⟨j, rfl⟩ : ∃ j : Nat, k = (j : Int) + 1 := ⟨(k - 1).toNat, oM⟩;have e : (((j : Int) + 1) - 1).toNat = j := oM;rw [e];refine LF fun i => ?_
 rw [Tq, Xj];unfold UW;rw [dg, dg]
 by_cases h1 : i < N
 ·rw [LI h1]
  by_cases h2 : j = i
  ·subst h2; rw [ao rfl, ao h1]; simp
  rw [aj h2];simp only [NZ, bQ]
  congr 1
  have : ((i : Int) + 1 = (j : Int) + 1 \/ (i : Int) + 1 ∈ vis) ↔ (i : Int) + 1 ∈ vis := ⟨fun h => h.elim (fun h => by omega) id, .inr⟩;simp only [this]
 have : (List.range N)[i]? = none := Dp (by simpa using Nat.le_of_not_lt h1);rw [this]
 by_cases h2 : j = i
 ·rw [ao h2, aj oM]; rfl
 rw [aj h2]; rfl
def Qc (N : Nat) (A : List Int) : List Int := (List.range N).map fun i : Nat => ((A.count ((i : Int) + 1) : Nat) : Int)
theorem En (N : Nat) (A : List Int) : (Qc N A).length = N := by simp [Qc]
theorem Xk {N : Nat} {A vis : List Int} (h : ∀ k ∈ A, k ∈ vis) : UW N A vis = Qc N A := by
 unfold UW Qc;refine LH fun i hi => ?_
 split
 ·rfl
 rename_i hn;rw [Wf fun hm => hn (h _ hm)]; rfl
theorem Tm (n : Nat) : rep n (iQ 0) = bg (List.replicate n 0) := by simp [rep, bg, List.map_replicate]
theorem Fu {G : Gh} {R : List aw} {w : World} {it m : Nat} {kv : KV} {vis : List Int} (hw : an G (y0 it m kv vis :: R) w) : an G (bH m kv :: R) w := by
 obtain ⟨es, ck, sq, vs, hf, _, _, _, hw⟩ := BW hw;exact pL hf hw.tail
section
variable {G : Gh} {L R : List aw} {w : World}
theorem Gm {vq : Nat} {V : Va} {lv : Value} {ts : List Tr} {U : List Int} (hw : an G (cj vq V :: L) w) (aW : V.Ok) (kl : aG L (g7 3 lv (ts.map br))) (nM : ts.length <= 1000) (hr0 : ∀ t ∈ ts, 0 <= t.root) (VD : ∀ r ∈ dK ts, r ∈ U) (UJ : ∀ n ∈ U, V.rd n ≠ none) (VC : ∀ n ∈ U, ∀ k ∈ fC V.rd n, k ∈ U) :
  Calls prog 42 #[pQ vq, lv] w (bU fun u w' => ∃ v W A, u = .tuple #[v, iQ 0] /\ Vb V.rd (dK ts) W A /\ an G (row 3 1 v V.po.c.length (bg (Qc V.po.c.length A)) :: cj vq V :: L) w') := by
 obtain ⟨la, lc, PX, -, -⟩ := (kl.at hw.tail).form;have hN := aW.po.len;refine ad (args := [_, _]) func42 rfl ntmps42 rfl rfl ?_;refine z9 ?_;refine al rfl KG rfl (MN hw aW kl nM hr0 VD UJ VC) rfl fun w Sx hv => ?_;obtain ⟨mm, W, A, rfl, B1, hw⟩ := hv;obtain ⟨m, hf, hw⟩ := iW (hw.b [cj vq V]);refine yb ?_;refine aE rfl (fun h1 => ?_) fun h1 => ?_
 ·
  exact absurd rfl h1
 refine z6 ?_;refine lD (v := .pointer (some ⟨m.q, 0, none⟩)) aZ hw ?_;refine al rfl Bc rfl (OR (hw.b [iE m.q V.po])) rfl fun w Sv hv => ?_;obtain ⟨rfl, hw⟩ := hv;have hw := gR hf (hw.b [ah vq _ _, bH m.om _, oy m.S, row 284 2 m.av _ _, aV (m.eW.map kp), iE m.q V.po]);refine CN rfl bp cm ni Es rfl rfl ⟨oM, oM⟩ oM oM hw rfl fun w SF hw => ?_;simp only [ez] at hw;simp only [ez];rw [Tm] at hw
 refine z6 ?_;refine X2 rfl fa rfl hw pK rfl fun w it hw => ?_;have hw := gS (z := 1) (m := V.po.c.length) (hw.b [ah SF _ _]) (by rw [bC]; simp) mL;rw [<-Xi V.po.c.length A] at hw;refine z2 ?_;refine bF (fun m e w => ∃ (vis : List Int), m = (fW A).length - vis.length /\ e = [(8, sQ SF V.po.c.length V.po.c.length), (27, pQ it)] /\ (vis.Nodup /\ ∀ k ∈ vis, k ∈ A) /\ an G (row 3 1 (sQ SF V.po.c.length V.po.c.length) V.po.c.length (bg (UW V.po.c.length A vis)) :: y0 it mm (PK A) vis :: cj vq V :: L) w)
  (m := (fW A).length) sB
  ⟨[], rfl, rfl, ⟨NV, by simp⟩, hw⟩ ?_
 rintro m e w ⟨vis, rfl, rfl, ⟨hvn, hvA⟩, hw⟩;refine z2 ?_;refine aaJ rfl rfl hw pK rfl (fun w fx hw => ?_) fun w k v hk Ml hw => ?_
 ·
  refine z3 ?_;refine cg rfl ?_;refine z8 ?_;exact cz rfl rfl rfl rfl (by
 have WK : ∀ k ∈ A, k ∈ vis := fun k hk => fx k _ (by rw [Ap, ao hk])
 rw [Xk WK] at hw;exact ⟨_, W, A, rfl, B1, (Fu (hw.b [y0 it mm _ _])).tail⟩)
 rw [Ap] at hk;have hkA : k ∈ A := Classical.byContradiction fun h => by rw [aj h] at hk; cases hk
 rw [ao hkA] at hk;obtain rfl := Option.some.inj hk;have hk : cO (PK A) k = some (iQ ((A.count k : Nat) : Int)) := by rw [Ap, ao hkA]
 have xA : 1 <= k /\ k <= (V.po.c.length : Int) := Va.PC (UJ k (B1.min (· ∈ U) VD VC k (B1.sub k hkA)));have RN := p5 (xr.2 ⟨Ml, hvn⟩) (m := fW A) (fun x hx => vC.2 ((bQ.1 hx).elim (fun h => h ▸ hkA) (hvA x)));rw [g5] at RN;refine z3 ?_;refine bY rfl ?_;refine z4 ?_;refine X4 rfl rfl hw pK hk ?_;refine mN ?_;refine cR rfl bp cm rfl rfl ⟨oM, oM⟩ ?_;refine ND (j := (k - 1).toNat) (xs' := bg (UW V.po.c.length A (k :: vis))) rfl tV rfl rfl ag rfl hw pK oM sM (by rw [<-Xh xA]; simp [bg, LA]) rfl (fun w hw => ?_);refine aC ?_;exact ⟨(fW A).length - (vis.length + 1), oM, [(8, _), (27, _)], sB, k :: vis, rfl, rfl, ⟨xr.2 ⟨Ml, hvn⟩, fun x hx => (bQ.1 hx).elim (fun h => h ▸ hkA) (hvA x)⟩, hw⟩
end
def Vh (Ds : List Nat) : fm := Ds.map fun D => (1000000000, pQ D)
theorem BQ (Ds : List Nat) : marks (Vh Ds) = Ds.map fun D => (pQ D : Value) := by
 induction Ds with
 | nil => rfl
 | cons D Ds ih => simp only [Vh, cH, marks, Nat.beq_refl, cond] at ih ⊢; rw [ih]
theorem rN (Ds : List Nat) (e : fm) : fk (Vh Ds) e := by
 induction Ds with
 | nil => exact fk.nil e
 | cons D Ds ih => exact fk.mark ih
theorem w9 {P : Program} {n : Nat} {fn : Func} {Q : Value -> World -> Prop} {e : fm} {G : Gh} : ∀ {Ds : List Nat} {L R : List aw} {w : World}, an G L w -> cG (aV (Ds.map fun D => dG D)) L R -> (∀ w', an G R w' -> ox P n fn Q e [] w') -> ox P n fn Q e (Ds.map fun D => (pQ D : Value)) w
 | [], L, R, w, hw, hp, h => h w (hw.drop hp)
 | D :: Ds, L, R, w, hw, hp, h => by
  have h1 := (hw.pick hp).Df;exact gz h1 .here fun w' h2 => w9 h2 .here h
theorem F7 {rd : Int -> Option Pg} (hr : CG rd) : ∀ {k : Nat} {n : Int}, ∀ x ∈ nP rd k n, x.1.length <= 24
 | 0, n, x, hx => by
  rw [nP] at hx;cases h : rd n with
  | none => rw [h] at hx; cases hx
  | some p =>
   rw [h] at hx;obtain ⟨y, hy, rfl⟩ := dE.1 hx;exact y5 (hr n p h) y hy
 | k + 1, n, x, hx => by
  rw [nP] at hx;cases h : rd n with
  | none => rw [h] at hx; cases hx
  | some p =>
   rw [h] at hx;obtain ⟨y, hy, h2⟩ := N0.1 hx;exact F7 hr x h2
theorem C9 {rd : Int -> Option Pg} (hr : CG rd) {t : Tr} : ∀ x ∈ fj rd t, x.1.length <= 24 /\ x.2.length <= 3840 := fun x hx => by
 unfold fj at hx;split at hx
 ·cases hx
 exact ⟨F7 hr x hx, za x hx⟩
theorem IA {V : Va} (aW : V.Ok) {t : Tr} (h : ss V.rd t = 0) : (0 <= t.items /\ t.items <= 524288) /\ ((fj V.rd t).length : Int) = t.items /\ 0 <= t.root := by
 rcases zu (Va.BJ aW) h with h1 | ⟨M, h1⟩
 ·have h2 := h1;unfold jJ at h2;have e : fj V.rd t = [] := by unfold fj; rw [ao h2.1]
  exact ⟨oM, by rw [e]; simp; omega, oM⟩
 have h2 := Va.yU aW h1.nd h1.th;have h3 := h1.many;have h4 := h1.form;unfold kV at h4;have h5 := h1.items;have h7 := Va.PC (h1.th _ h1.root);have e : fj V.rd t = nP V.rd (t.aQ - 1).toNat t.root := by unfold fj; rw [aj h4.1]
 exact ⟨oM, by rw [e]; exact h5, oM⟩
theorem IP {rd : Int -> Option Pg} (hr : CG rd) : ∀ {ts : List Tr}, (∀ t ∈ ts, ss rd t = 0) -> ∃ U : List Int, (∀ r ∈ dK ts, r ∈ U) /\ (∀ n ∈ U, rd n ≠ none) /\ ∀ n ∈ U, ∀ k ∈ fC rd n, k ∈ U
 | [], _ => ⟨[], by simp [dK], by simp, by simp⟩
 | t :: ts, h => by
  obtain ⟨U, h1, h2, h3⟩ := IP hr fun t ht => h t (jN _ ht)
  have J' : dK (t :: ts) = (if 0 < t.root then [t.root] else []) ++ dK ts := by
   unfold dK;rw [cH, N1]
   by_cases h0 : 0 < t.root
   ·rw [ao (decide_eq_true h0), ao h0]; rfl
   rw [aj (by simpa using h0), aj h0]; rfl
  rcases zu hr (h t (iD ..)) with hn | ⟨M, hM⟩
  ·unfold jJ at hn;refine ⟨U, ?_, h2, h3⟩;rw [J', aj oM]; exact h1
  refine ⟨M ++ U, fun r hr => ?_, fun n hn => ?_, fun n hn k hk => ?_⟩
  ·rw [J'] at hr;rcases gF.1 hr with hr | hr
   ·split at hr
    ·simp at hr; subst hr; exact xt _ hM.root
    cases hr
   exact N5 _ (h1 r hr)
  ·rcases gF.1 hn with hn | hn
   ·exact hM.th n hn
   exact h2 n hn
  rcases gF.1 hn with hn | hn
  ·exact xt _ (hM.kids n hn k hk)
  exact N5 _ (h3 n hn k hk)
theorem Kj {N : Nat} {A : List Int} {i : Nat} (h : i < N) : (Qc N A)[i]? = some ((A.count ((i : Int) + 1) : Nat) : Int) := by
 unfold Qc;rw [dg, LI h]; rfl
theorem xj {c A : List Int} : Qc c.length A = c ↔ Di c A := by
 constructor
 ·intro h i x hx;have hi := (xu.1 hx).1;have h1 := Kj (A := A) hi;rw [h, hx] at h1;exact (Option.some.inj h1).symm
 intro h;refine LF fun i => ?_
 by_cases hi : i < c.length
 ·obtain ⟨x, hx⟩ : ∃ x, c[i]? = some x := ⟨_, dm hi⟩;rw [Kj hi, hx, h i x hx]
 rw [Dp (by rw [En]; omega), Dp oM]
def kF (A : List Int) (k : Nat) : List Int := ((List.range k).map fun i : Nat => (i : Int) + 1).filter fun n => decide (n ∈ A)
theorem Lf (A : List Int) (k : Nat) : kF A (k + 1) = kF A k ++ if (k : Int) + 1 ∈ A then [(k : Int) + 1] else [] := by
 unfold kF;rw [Tn, kz, JX]
 congr 1
 by_cases h : (k : Int) + 1 ∈ A <;> simp [h]
theorem VU (A : List Int) (k : Nat) : (kF A k).length <= k := by
 have := N6 (fun n => decide (n ∈ A)) ((List.range k).map fun i : Nat => (i : Int) + 1);rw [bX, List.length_range] at this;exact this
theorem VT {A : List Int} {k : Nat} {n : Int} : n ∈ kF A k ↔ n ∈ A /\ 1 <= n /\ n <= k := by
 unfold kF;rw [Dn, dE]
 constructor
 ·rintro ⟨⟨i, hi, rfl⟩, h⟩;rw [rj] at hi;exact ⟨by simpa using h, oM, oM⟩
 rintro ⟨h1, h2, h3⟩;exact ⟨⟨(n - 1).toNat, by rw [rj]; omega, oM⟩, by simpa using h1⟩
theorem QZ (A : List Int) (k : Nat) : (kF A k).Nodup := by
 unfold kF;refine List.Nodup.sublist List.filter_sublist ?_
 induction k with
 | zero => simp
 | succ k ih =>
  rw [Tn, kz, N2];refine ⟨ih, by simp, fun a ha b hb => ?_⟩;obtain ⟨i, hi, rfl⟩ := dE.1 ha;rw [rj] at hi;simp at hb
  omega
theorem Py {rd : Int -> Option Pg} {ts us : List Tr} {W W' : List Int} (h : W.Perm W') : Dm rd ts us W = Dm rd ts us W' := by
 have e1 : ∀ k, jr rd k W = jr rd k W' := fun k => by unfold jr; rw [(h.filter _).length_eq]
 have e2 : qg rd W = qg rd W' := by unfold qg; rw [(h.filter _).length_eq]
 unfold Dm;rw [h.length_eq, e1, e1, e2]
theorem Vb.perm {rd : Int -> Option Pg} {roots W A W' A' : List Int} (h : Vb rd roots W A) (h' : Vb rd roots W' A') : W.Perm W' /\ A.Perm A' := by
 have key : ∀ {W A W' A' : List Int}, Vb rd roots W A -> Vb rd roots W' A' -> ∀ n ∈ W, n ∈ W' := fun {W A W' A'} h h' => by
  refine h.min (· ∈ W') (fun r hr => h'.sub r (by rw [h'.arr]; exact xt _ hr)) fun n hn k hk => h'.sub k ?_
  rw [h'.arr];exact N5 _ (N0.2 ⟨n, hn, hk⟩)
 have hp : W.Perm W' := (List.perm_ext_iff_of_nodup h.nd h'.nd).2 fun a => ⟨key h h' a, key h' h a⟩
 refine ⟨hp, ?_⟩;rw [h.arr, h'.arr];exact List.Perm.append_left _ (hp.flatMap_right _)
theorem qs.one {rd : Int -> Option Pg} {c : List Int} {ts : List Tr} {rp rp' : Rp} {er er' : Int} (h : qs rd c ts rp er) (h' : qs rd c ts rp' er') : rp = rp' /\ er = er' := by
 rcases h with ⟨⟨t, ht, hc⟩, rfl, rfl⟩ | ⟨hc, W, A, hl, h⟩ <;> rcases h' with ⟨⟨t', ht', RZ⟩, rfl, rfl⟩ | ⟨RZ, W', A', Ke, h'⟩
 ·exact ⟨rfl, rfl⟩
 ·exact absurd (RZ t ht) hc
 ·exact absurd (hc t' ht') RZ
 obtain ⟨p1, p2⟩ := hl.perm Ke;have RY : Di c A ↔ Di c A' := by
  unfold Di
  constructor
  ·intro h i x hx; rw [<-h i x hx, p2.count_eq]
  intro h i x hx; rw [<-h i x hx, p2.count_eq]
 rcases h with ⟨hf, rfl, rfl⟩ | ⟨hf, rfl, rfl⟩ <;> rcases h' with ⟨SB, rfl, rfl⟩ | ⟨SB, rfl, rfl⟩
 ·exact ⟨Py p1, rfl⟩
 ·exact absurd (RY.1 hf) SB
 ·exact absurd (RY.2 SB) hf
 exact ⟨rfl, rfl⟩
section
variable {G : Gh} {L R : List aw} {w : World}
theorem nr {vq : Nat} {V : Va} {lv : Value} {l : List (Int × Tr)} (hw : an G (cj vq V :: L) w) (aW : V.Ok) (kl : aG L (g7 4 lv (l.map eK))) (nM : l.length <= 1000) (RI : aG L EvK) :
  Calls prog 11 #[pQ vq, lv] w (bU fun r w' => ∃ rp er, r = .tuple #[gQ (qu.cells ⟨rp, nQ⟩), iQ er] /\ (qs V.rd V.po.c (l.map (·.2)) rp er /\ rp.bad = []) /\ an G (cj vq V :: L) w') := by
 obtain ⟨ra, rc, RR, -, -⟩ := (kl.at hw.tail).form;rw [bX] at RR;subst RR;have hN := aW.po.len;refine ad (args := [_, _]) func11 rfl ntmps11 rfl rfl ?_;refine z2 ?_;refine aF rfl ft hw rfl fun w b4 hw => ?_;refine z5 ?_;refine eJ rfl kR dw rfl ?_;refine aO (v := .agg #[iQ l.length, iQ 0, iQ 0, iQ 0, iQ 0, iQ 0, iQ 0, nQ]) rfl rfl (fun w => kR) ?_;refine aF rfl ft hw rfl fun w b6 hw => ?_;refine aT (cs := [iQ l.length, iQ 0, iQ 0, iQ 0, iQ 0, iQ 0, iQ 0, nQ]) (l' := [iQ l.length, iQ 0, iQ 0, iQ 0, iQ 0, iQ 0, iQ 0, nQ]) rfl tV rfl rfl aM rfl (by intro u hu; simp at hu; rcases hu with rfl | rfl | rfl | rfl <;> rfl) hw pK sM rfl rfl (fun w hw => ?_);refine z9 ?_;refine eJ rfl kR dw rfl ?_;refine z3 ?_;have hw := bI (an.bz (M := ([] : List Nat).map fun D => dG D) hw) 62 3;have hw := hw.b [row 62 3 (nQ) _ _, ah b6 _ _, ah b4 _ _, aV _, cj vq V];refine bF (fun m e w => ∃ (i : Nat) (Ds : List Nat) (tv : Value), i <= l.length /\ m = l.length - i /\ e = (0, pQ vq) :: (4, pQ b4) :: (6, pQ b6) :: (7, tv) :: (21, .slice ra l.length rc) :: (22, iQ l.length) :: (23, iQ i) :: Vh Ds /\ ((∀ t ∈ ((l.map (·.2)).take i), ss V.rd t = 0) /\ (0 <= px (((l.map (·.2)).take i).map Tr.items) /\ px (((l.map (·.2)).take i).map Tr.items) <= 524288 * i) /\ (0 <= px (((l.map (·.2)).take i).map fun t => ik (fj V.rd t)) /\ px (((l.map (·.2)).take i).map fun t => ik (fj V.rd t)) <= 2013265920 * i)) /\ an G (row 62 3 tv i (((l.map (·.2)).take i).map br).flatten :: ah b6 [iQ l.length, iQ 0, iQ 0, iQ 0, iQ 0, iQ (px (((l.map (·.2)).take i).map Tr.items)), iQ (px (((l.map (·.2)).take i).map fun t => ik (fj V.rd t))), nQ] 40 :: ah b4 (qu.cells ⟨wZ, nQ⟩) 40 :: aV (Ds.map fun D => dG D) :: cj vq V :: L) w)
  (m := l.length) sB
  ⟨0, [], _, dy _, rfl, rfl, ⟨(fun t ht => by simp at ht), ⟨by simp [px], by simp [px]⟩, ⟨by simp [px], by simp [px]⟩⟩, hw⟩ ?_
 rintro m e w ⟨i, Ds, tv, hi, rfl, rfl, ⟨Hn, OC, P3⟩, hw⟩;obtain ⟨ta, tc, rfl⟩ := aP hw;refine z5 ?_;refine aE rfl (fun h1 => ?_) fun h1 => ?_
 ·
  have tX : i < l.length := oM;obtain ⟨x, hx⟩ : ∃ x, l[i]? = some x := ⟨_, dm tX⟩;have tU : (l.map eK)[i]? = some (eK x) := by rw [dg, hx]; rfl
  have hxt : (l.map (·.2))[i]? = some x.2 := by rw [dg, hx]; rfl
  obtain ⟨rb, ro, rfl⟩ := ((kl.of sF).at hw).nn (by rw [bX]; omega);refine z5 ?_;refine eY rfl dw nG rfl rfl ⟨oM, oM⟩ ?_;refine bt rfl rfl (ar.many (cs := eK x) gb rfl (by rw [ez]; exact ((kl.of sF).at hw).at tU)) ?_;refine aF rfl sL hw rfl fun w b9 hw => ?_;refine aT (cs := eK x) (l' := eK x) rfl tV rfl rfl gb rfl (by intro u hu; simp [eK] at hu; rcases hu with rfl | rfl | rfl | rfl <;> rfl) hw pK (by simp [eK]) rfl rfl (fun w hw => ?_);refine z6 ?_;refine bt rfl rfl (ar.tL (cs := br x.2) aX hw pK rfl rfl) ?_;refine al rfl Gy rfl (HT (t := x.2) aW (hw.b [cj vq V]) (RI.of sF)) rfl fun w v30 hv => ?_;obtain ⟨rfl, hw⟩ := hv;refine z2 ?_;refine aE rfl (fun h2 => ?_) fun h2 => ?_
  ·
   refine z2 ?_;refine aO (v := .agg #[iQ 0, iQ 0, iQ 0, iQ 0, iQ 0, iQ 0, iQ 0, nQ]) rfl rfl (fun w => kR) ?_;refine aT (cs := qu.cells ⟨wZ, nQ⟩) (l' := qu.cells ⟨wZ, nQ⟩) rfl tV rfl rfl aM rfl (by intro u hu; simp [qu.cells] at hu; rcases hu with rfl | rfl | rfl | rfl | rfl | rfl | rfl | rfl <;> rfl) hw pK (by simp [qu.cells]) rfl rfl (fun w hw => ?_);refine z3 ?_;refine bB (BQ Ds) ?_;refine w9 hw pK fun w hw => ?_;refine yX rfl ⟨_, rfl, (ar.cU (l := qu.cells ⟨wZ, nQ⟩) aM hw pK rfl)⟩ rfl ⟨wZ, 18, rfl, ⟨.inl ⟨⟨x.2, gl hxt, h2⟩, rfl, rfl⟩, rfl⟩, ?_⟩;exact (hw.b [ah b4 _ _, ah b6 _ _, row 62 3 _ _ _, ah b9 _ _]).tail.tail.tail.tail
  have hc0 : ss V.rd x.2 = 0 := c6.1 h2;have jB := zu (Va.BJ aW) hc0;obtain ⟨ZX, hsf, hsr⟩ := IA aW hc0;have Ej := OO (rd := V.rd) (t := x.2);refine z5 ?_;refine bt rfl rfl (ar.tL (cs := br x.2) aX hw pK rfl rfl) ?_;refine fG (cs := br x.2) rfl nA u6 CJ dM rfl rfl rfl hw rfl fun w b36 hw => ?_;refine fH (m := i) (k := 1) (news := br x.2) rfl nA u6 M3 CJ rfl rfl hw pK (Rd.jE hw pK) rfl (by intro u hu; simp [br] at hu; rcases hu with rfl | rfl | rfl <;> rfl) mL oM rfl (fun w v37 hw => ?_);have hhn : (l.map (·.2)).take (i + 1) = ((l.map (·.2)).take i) ++ [x.2] := cC hxt;have ZU : px (((l.map (·.2)).take (i + 1)).map Tr.items) = px (((l.map (·.2)).take i).map Tr.items) + x.2.items := by rw [hhn, kz, cH, gE, BE]
  have ZT : px (((l.map (·.2)).take (i + 1)).map fun t => ik (fj V.rd t)) = px (((l.map (·.2)).take i).map fun t => ik (fj V.rd t)) + ik (fj V.rd x.2) := by rw [hhn, kz, cH, gE, BE]
  have acQ : ∀ t ∈ (l.map (·.2)).take (i + 1), ss V.rd t = 0 := fun t ht => by
   rw [hhn] at ht;rcases gF.1 ht with ht | ht
   ·exact Hn t ht
   simp at ht; subst ht; exact hc0
  have Kf : (((l.map (·.2)).take i).map br).flatten ++ br x.2 = (((l.map (·.2)).take (i + 1)).map br).flatten := by rw [hhn]; simp
  rw [Kf] at hw;obtain ⟨I0, hI0⟩ : ∃ y, y = px (((l.map (·.2)).take i).map Tr.items) := ⟨_, rfl⟩;obtain ⟨Y0, hY0⟩ : ∃ y, y = px (((l.map (·.2)).take i).map fun t => ik (fj V.rd t)) := ⟨_, rfl⟩;rw [<-hI0, <-hY0] at hw
  rw [<-hI0] at OC ZU;rw [<-hY0] at P3 ZT
  refine z5 ?_;refine lD (v := iQ I0) ag hw ?_;refine z1 ?_;refine cS rfl nq rfl ?_;refine lD (v := iQ x.2.items) ag hw ?_;refine z2 ?_;refine bu (l' := [iQ l.length, iQ 0, iQ 0, iQ 0, iQ 0, iQ ((I0 + x.2.items)), iQ Y0, nQ]) rfl tV rfl rfl ag rfl hw pK rfl rfl rfl fun w hw => ?_;refine z5 ?_;refine bt rfl rfl (ar.tL (cs := br x.2) aX hw pK rfl rfl) ?_;refine aO (v := gQ Q8.cells) rfl rfl (fun w => kR) ?_;refine al rfl H' rfl (Kn (t := x.2) (hw.b [cj vq V]) aW jB) rfl fun w X8 hv => ?_;obtain ⟨s1, s2, sv, ol, rfl, ⟨WR, Z2⟩, hw⟩ := hv;have adZ : (ol.length : Int) = x.2.items := by rw [<-hsf, <-WR, bX]
  have Yn : ∀ k, ik ((fj V.rd x.2).take k) <= 3840 * k /\ 0 <= ik ((fj V.rd x.2).take k) := fun k => by
   have h1 := L9 (l := (fj V.rd x.2).take k) (fun y hy => (C9 (Va.BJ aW) y (Tv hy)).2);have h2 := List.length_take_le k (fj V.rd x.2);omega
  have B0 : ∀ y ∈ ol, bP y.pr.1 /\ bP y.pr.2 := fun y hy => by
   have h1 := C9 (Va.BJ aW) (t := x.2) y.pr (by rw [<-WR]; exact dE.2 ⟨y, hy, rfl⟩);unfold bP;omega
  refine z2 ?_;have e0 : Y0 = Y0 + ik ((fj V.rd x.2).take 0) := by rw [NW, show ik [] = 0 from rfl, NU]
  have hz := hw.b [ah b6 _ _, ah s2 _ _, ah s1 _ _, row 66 2 _ _ _, aV (ol.flatMap fg), ah b36 _ _, ah b9 _ _, row 62 3 _ _ _, ah b4 _ _, aV (Ds.map fun D => dG D), cj vq V];clear hw;rw [e0] at hz;have hw := hz;clear hz;refine qI (e₀ := [(6, pQ b6)]) (fun k => ah b6 [iQ l.length, iQ 0, iQ 0, iQ 0, iQ 0, iQ ((I0 + x.2.items)), iQ ((Y0 + ik ((fj V.rd x.2).take k))), nQ] 40) (fun _ => False) [] rfl DT rfl sG rfl hw (fun k args M h => by obtain ⟨x, a, c, a', c', _, rfl⟩ := h; rfl) (WB Z2 B0) ?_ ?_ ?_ ?_
  ·
   clear hw;intro l D1 o k args M w hk oJ hw;obtain ⟨y, a, c, a', c', hy, rfl⟩ := oJ;have hfy : (fj V.rd x.2)[k]? = some y.pr := by rw [<-WR, dg, hy]; rfl
   have Ax := (xu.1 hy).1;have Vm := Yn k;have KZ := Yn (k + 1);have acj : ik ((fj V.rd x.2).take (k + 1)) = ik ((fj V.rd x.2).take k) + y.pr.2.length := by rw [cC hfy, Fi]
   refine z3 ?_;refine ⟨_, hw.pick (A := pt l o) pK, fun o' w hw => ?_⟩;refine z3 ?_;refine lD (v := iQ (Y0 + ik ((fj V.rd x.2).take k))) ag hw ?_;refine z4 ?_;refine bu (l' := [iQ _, iQ 0, iQ 0, iQ 0, iQ 0, iQ ((I0 + x.2.items)), iQ ((Y0 + ik ((fj V.rd x.2).take k) + y.pr.2.length)), nQ]) rfl tV rfl rfl ag rfl hw pK rfl rfl rfl fun w hw => ?_;refine aC ?_;rw [acj, <-Int.add_assoc];exact hw
  ·
   clear hw;intro D1 w hw;have Um : (fj V.rd x.2).take ol.length = fj V.rd x.2 := oF (by rw [<-WR, bX]; omega);rw [Um, <-ZU, <-ZT] at hw;have hz := (hw.b [ah s2 _ _, ah s1 _ _, row 66 2 _ _ _, aV (ol.flatMap fg), ah b36 _ _, ah b9 _ _, dG D1, aV (Ds.map fun D => dG D)]).tail.tail.tail.tail.tail.tail;have hz := an.M7 (M := [dG D1]) (an.bz (M := [dG D1]) hz);have hz := hz.b [row 62 3 _ _ _, ah b6 _ _, ah b4 _ _, aV _, cj vq V];clear hw;have hw := hz;clear hz;refine z4 ?_;exact ⟨l.length - (i + 1), oM, (0, _) :: (4, _) :: (6, _) :: (7, v37) :: (21, _) :: (22, _) :: (23, iQ (i + 1 : Nat)) :: Vh (D1 :: Ds), (xl.mk (by repeat (first | exact fk.nil _ | exact rN _ _ | refine fk.mark ?_ | refine fk.cons rfl ?_)) (by exact rfl)), i + 1, D1 :: Ds, v37, oM, rfl, rfl, ⟨acQ, by rw [ZU]; omega, by rw [ZT]; omega⟩, hw⟩
  ·
   clear hw; intro D w hw; exact (gC hw).elim fun _ h => h.1.elim
  intro id A hA; cases hA
 have hie : i = l.length := oM;subst hie;obtain ⟨ts, hts⟩ : ∃ ts, ts = l.map (·.2) := ⟨_, rfl⟩;have Um : (l.map (·.2)).take l.length = ts := by rw [hts]; exact oF sM
 have Ov : ts.length = l.length := by rw [hts]; simp
 rw [Um] at hw Hn OC P3;rw [<-hts];obtain ⟨I0, hI0⟩ : ∃ x, x = px (ts.map Tr.items) := ⟨_, rfl⟩;obtain ⟨Y0, hY0⟩ : ∃ x, x = px (ts.map fun t => ik (fj V.rd t)) := ⟨_, rfl⟩;rw [<-hI0, <-hY0] at hw
 obtain ⟨U, VD, UJ, VC⟩ := IP (Va.BJ aW) Hn;have HD : ∀ R, aG (row 62 3 (.slice ta l.length tc) l.length (ts.map br).flatten :: R) (g7 3 (.slice ta l.length tc) (ts.map br)) := fun R => (g7.row (by rw [bX, Ov]) (fun r hr => by obtain ⟨x, _, rfl⟩ := dE.1 hr; rfl)).head R
 refine z5 ?_;refine al rfl D2 rfl (Gm (ts := ts) (hw.b [cj vq V]) aW ((HD _).of sF) oM (fun t ht => (IA aW (Hn t ht)).2.2) VD UJ VC) rfl fun w v62 hv => ?_;obtain ⟨cv, W, A, rfl, B1, hw⟩ := hv;obtain ⟨ca, cc, rfl⟩ := aP hw;have hkc : ∀ R, aG (row 3 1 (.slice ca V.po.c.length cc) V.po.c.length (bg (Qc V.po.c.length A)) :: R) (qx (.slice ca V.po.c.length cc) (bg (Qc V.po.c.length A))) := fun R => by
  have h := uk (v := .slice ca V.po.c.length cc) (c := Qc V.po.c.length A) (R := R);rw [En] at h;exact h
 refine yb ?_;refine ay (d := 67) rfl (fun h3 => ?_) fun h3 => ?_
 ·
  exact absurd rfl h3
 obtain ⟨m, hf, hw⟩ := iW (hw.b [cj vq V]);refine z2 ?_;refine Bx rfl rfl ?_;refine z1 ?_;refine lD (v := .pointer (some ⟨m.q, 0, none⟩)) aZ hw ?_;refine al rfl jZ rfl (rA (hw.b [iE m.q V.po]) aW.po) rfl fun w v73 hv => ?_;have hw : an G (row 3 1 v73 V.po.c.length (bg V.po.c) :: _) _ := hv;obtain ⟨da, dc, rfl⟩ := aP hw;have hz := gR hf (hw.b [ah vq _ _, bH m.om _, oy m.S, row 284 2 m.av _ _, aV (m.eW.map kp), iE m.q V.po]);clear hw;have hw := hz.b [row 3 1 (.slice da _ dc) _ _, row 3 1 (.slice ca _ cc) _ _];clear hz;refine al rfl rE rfl (si (l := Qc V.po.c.length A) (l' := V.po.c) hw ((hkc _).of sF) (uk.of sF) (by rw [En]; omega)) rfl (fun w v74 hv => ?_);obtain ⟨rfl, hw⟩ := hv;refine fo rfl rfl ?_;refine z2 ?_;refine aE rfl (fun h4 => ?_) fun h4 => ?_
 ·
  refine z2 ?_;refine aO (v := .agg #[iQ 0, iQ 0, iQ 0, iQ 0, iQ 0, iQ 0, iQ 0, nQ]) rfl rfl (fun w => kR) ?_;refine aT (cs := qu.cells ⟨wZ, nQ⟩) (l' := qu.cells ⟨wZ, nQ⟩) rfl tV rfl rfl aM rfl (by intro u hu; simp [qu.cells] at hu; rcases hu with rfl | rfl | rfl | rfl | rfl | rfl | rfl | rfl <;> rfl) hw pK (by simp [qu.cells]) rfl rfl (fun w hw => ?_);refine z3 ?_;refine bB (BQ Ds) ?_;refine w9 hw pK fun w hw => ?_;refine yX rfl ⟨_, rfl, (ar.cU (l := qu.cells ⟨wZ, nQ⟩) aM hw pK rfl)⟩ rfl ⟨wZ, 18, rfl, ⟨.inr ⟨Hn, W, A, B1, .inr ⟨fun RY => h4 (xj.2 RY), rfl, rfl⟩⟩, rfl⟩, ?_⟩;exact (hw.b [ah b4 _ _, row 3 1 (.slice da _ dc) _ _, row 3 1 (.slice ca _ cc) _ _, row 62 3 _ _ _, ah b6 _ _]).tail.tail.tail.tail.tail
 have RY : Di V.po.c A := xj.1 (c6.1 h4);have hAW : ∀ n, n ∈ A ↔ n ∈ W := fun n => ⟨B1.sub n, B1.inn n⟩
 have hWU : ∀ n ∈ W, n ∈ U := B1.min (· ∈ U) VD VC;refine z9 ?_;have hz := hw.b [row 3 1 (.slice ca _ cc) _ _, ah b6 _ _, ah b4 _ _, aV (Ds.map fun D => dG D), row 3 1 (.slice da _ dc) _ _, row 62 3 _ _ _, cj vq V];clear hw;have hw := hz;clear hz;refine bF (fun m e w => ∃ (k : Nat), k <= V.po.c.length /\ m = V.po.c.length - k /\ e = (0, pQ vq) :: (4, pQ b4) :: (6, pQ b6) :: (78, .slice ca V.po.c.length cc) :: (79, iQ V.po.c.length) :: (80, iQ k) :: Vh Ds /\ an G (row 3 1 (.slice ca V.po.c.length cc) V.po.c.length (bg (Qc V.po.c.length A)) :: ah b6 [iQ l.length, iQ (((kF A k).length : Int)), iQ (jr V.rd 1 (kF A k)), iQ (jr V.rd 2 (kF A k)), iQ (qg V.rd (kF A k)), iQ I0, iQ Y0, nQ] 40 :: ah b4 (qu.cells ⟨wZ, nQ⟩) 40 :: aV (Ds.map fun D => dG D) :: row 3 1 (.slice da V.po.c.length dc) V.po.c.length (bg V.po.c) :: row 62 3 (.slice ta l.length tc) l.length (ts.map br).flatten :: cj vq V :: L) w)
  (m := V.po.c.length) (xl.mk (by repeat (first | exact fk.nil _ | exact rN _ _ | refine fk.mark ?_ | refine fk.cons rfl ?_)) (by exact rfl))
  ⟨0, dy _, rfl, rfl, hw⟩ ?_
 rintro m e w ⟨k, hk, rfl, rfl, hw⟩;have Vk := VU A k;have Vr := Qf V.rd 1 (kF A k);have C7 := Qf V.rd 2 (kF A k);have hk3 := Xl V.rd (kF A k);refine z5 ?_;refine aE rfl (fun h5 => ?_) fun h5 => ?_
 ·
  have Ax : k < V.po.c.length := oM;have hcg : (bg (Qc V.po.c.length A))[k]? = some (iQ ((A.count ((k : Int) + 1) : Nat) : Int)) := by rw [bg, dg, Kj Ax]; rfl
  obtain ⟨cb, co, Vx⟩ := (((hkc _).of sF).at hw).nn (by rw [bC, En]; omega);cases Vx;refine z6 ?_;refine cR rfl bp cm rfl rfl ⟨oM, oM⟩ ?_;refine bt rfl rfl (ar.one (v := iQ ((A.count ((k : Int) + 1) : Nat) : Int)) ag ((((hkc _).of sF).at hw).at (by rw [ez]; exact hcg))) ?_;refine z9 ?_;refine aE rfl (fun h6 => ?_) fun h6 => ?_
  ·
   have hni : (k : Int) + 1 ∉ A := fun hm => by have := List.count_pos_iff.2 hm; omega
   have Jc : kF A (k + 1) = kF A k := by rw [Lf, aj hni, pz]
   refine z5 ?_
   (try unfold sQ at hw); rw [<-Jc] at hw
   exact ⟨V.po.c.length - (k + 1), oM, (0, _) :: (4, _) :: (6, _) :: (78, _) :: (79, _) :: (80, iQ (k + 1 : Nat)) :: Vh Ds, (xl.mk (by repeat (first | exact fk.nil _ | exact rN _ _ | refine fk.mark ?_ | refine fk.cons rfl ?_)) (by exact rfl)), k + 1, oM, rfl, rfl, hw⟩
  have xA : (k : Int) + 1 ∈ A := Classical.byContradiction fun hm => by have := Wf hm; omega
  obtain ⟨p, qE⟩ : ∃ p, V.rd ((k : Int) + 1) = some p := Zj.1 (UJ _ (hWU _ ((hAW _).1 xA)));have Jc : kF A (k + 1) = kF A k ++ [(k : Int) + 1] := by rw [Lf, ao xA]
  have UA : lu V.rd ((k : Int) + 1) = p.kind := by unfold lu; rw [qE]
  refine z6 ?_;refine al rfl cE rfl (gi (n := (k : Int) + 1) (hw.b [cj vq V]) aW) rfl fun w v91 hv => ?_;obtain ⟨p', er, A', rfl, jd, iT, hw⟩ := hv;obtain ⟨Dw, rfl, rfl, gG⟩ := iT.resolve_left (fun h => by rw [h.1] at qE; cases qE);refine z3 ?_;refine aF rfl bE hw rfl fun w NA hw => ?_;refine aT (cs := p'.cells) (l' := p'.cells) rfl tV rfl rfl ae rfl jd hw pK (by simp [bT.cells]) rfl kR fun w hw => ?_;rw [qE] at Dw;obtain rfl : p = p'.pg := Option.some.inj Dw;have UA : lu V.rd ((k : Int) + 1) = p'.kind := UA;refine z8 ?_;refine aE rfl (fun h7 => ?_) fun h7 => ?_
  ·
   exact absurd rfl h7
  refine z4 ?_;refine lD (v := iQ ((kF A k).length : Int)) ag hw ?_;refine z2 ?_;refine bu (l' := [iQ l.length, iQ (((kF A k).length : Int) + 1), iQ (jr V.rd 1 (kF A k)), iQ (jr V.rd 2 (kF A k)), iQ (qg V.rd (kF A k)), iQ I0, iQ Y0, nQ]) rfl tV rfl rfl ag rfl hw pK rfl rfl rfl fun w hw => ?_;refine z4 ?_;refine lD (v := iQ p'.kind) ag hw ?_;refine z7 ?_;refine aE rfl (fun h8 => ?_) fun h8 => ?_
  ·
   refine z2 ?_;refine lD (v := iQ (jr V.rd 1 (kF A k))) ag hw ?_;refine z2 ?_;refine bu (l' := [iQ l.length, iQ (((kF A k).length : Int) + 1), iQ (jr V.rd 1 (kF A k) + 1), iQ (jr V.rd 2 (kF A k)), iQ (qg V.rd (kF A k)), iQ I0, iQ Y0, nQ]) rfl tV rfl rfl ag rfl hw pK rfl rfl rfl fun w hw => ?_;refine z5 ?_;have e0 : (((kF A (k + 1)).length : Nat) : Int) = ((kF A k).length : Int) + 1 := by rw [Jc, de]; rfl
   have e1 : jr V.rd 1 (kF A (k + 1)) = jr V.rd 1 (kF A k) + 1 := by rw [Jc, pN, UA, ao h8]
   have e2 : jr V.rd 2 (kF A (k + 1)) = jr V.rd 2 (kF A k) := by rw [Jc, pN, UA, aj oM, NU]
   have e3 : qg V.rd (kF A (k + 1)) = qg V.rd (kF A k) := by rw [Jc, Cr, UA, aj oM, NU]
   rw [<-e0, <-e1, <-e2, <-e3] at hw;exact ⟨V.po.c.length - (k + 1), oM, (0, _) :: (4, _) :: (6, _) :: (78, _) :: (79, _) :: (80, iQ (k + 1 : Nat)) :: Vh Ds, (xl.mk (by repeat (first | exact fk.nil _ | exact rN _ _ | refine fk.mark ?_ | refine fk.cons rfl ?_)) (by exact rfl)), k + 1, oM, rfl, rfl, (hw.b [ah NA _ _, cB p', row 3 1 (.slice (some ⟨cb, co, none⟩) _ cc) _ _, ah b6 _ _, ah b4 _ _, aV _, row 3 1 (.slice da _ dc) _ _, row 62 3 _ _ _, cj vq V]).tail.tail⟩
  refine z5 ?_;refine aE rfl (fun h9 => ?_) fun h9 => ?_
  ·
   refine z2 ?_;refine lD (v := iQ (jr V.rd 2 (kF A k))) ag hw ?_;refine z2 ?_;refine bu (l' := [iQ l.length, iQ (((kF A k).length : Int) + 1), iQ (jr V.rd 1 (kF A k)), iQ (jr V.rd 2 (kF A k) + 1), iQ (qg V.rd (kF A k)), iQ I0, iQ Y0, nQ]) rfl tV rfl rfl ag rfl hw pK rfl rfl rfl fun w hw => ?_;refine z5 ?_;have e0 : (((kF A (k + 1)).length : Nat) : Int) = ((kF A k).length : Int) + 1 := by rw [Jc, de]; rfl
   have e1 : jr V.rd 1 (kF A (k + 1)) = jr V.rd 1 (kF A k) := by rw [Jc, pN, UA, aj h8, NU]
   have e2 : jr V.rd 2 (kF A (k + 1)) = jr V.rd 2 (kF A k) + 1 := by rw [Jc, pN, UA, ao h9]
   have e3 : qg V.rd (kF A (k + 1)) = qg V.rd (kF A k) := by rw [Jc, Cr, UA, aj oM, NU]
   rw [<-e0, <-e1, <-e2, <-e3] at hw;exact ⟨V.po.c.length - (k + 1), oM, (0, _) :: (4, _) :: (6, _) :: (78, _) :: (79, _) :: (80, iQ (k + 1 : Nat)) :: Vh Ds, (xl.mk (by repeat (first | exact fk.nil _ | exact rN _ _ | refine fk.mark ?_ | refine fk.cons rfl ?_)) (by exact rfl)), k + 1, oM, rfl, rfl, (hw.b [ah NA _ _, cB p', row 3 1 (.slice (some ⟨cb, co, none⟩) _ cc) _ _, ah b6 _ _, ah b4 _ _, aV _, row 3 1 (.slice da _ dc) _ _, row 62 3 _ _ _, cj vq V]).tail.tail⟩
  refine z2 ?_;refine lD (v := iQ (qg V.rd (kF A k))) ag hw ?_;refine z2 ?_;refine bu (l' := [iQ l.length, iQ (((kF A k).length : Int) + 1), iQ (jr V.rd 1 (kF A k)), iQ (jr V.rd 2 (kF A k)), iQ (qg V.rd (kF A k) + 1), iQ I0, iQ Y0, nQ]) rfl tV rfl rfl ag rfl hw pK rfl rfl rfl fun w hw => ?_;refine z5 ?_;have e0 : (((kF A (k + 1)).length : Nat) : Int) = ((kF A k).length : Int) + 1 := by rw [Jc, de]; rfl
  have e1 : jr V.rd 1 (kF A (k + 1)) = jr V.rd 1 (kF A k) := by rw [Jc, pN, UA, aj h8, NU]
  have e2 : jr V.rd 2 (kF A (k + 1)) = jr V.rd 2 (kF A k) := by rw [Jc, pN, UA, aj h9, NU]
  have e3 : qg V.rd (kF A (k + 1)) = qg V.rd (kF A k) + 1 := by rw [Jc, Cr, UA, ao ⟨h8, h9⟩]
  rw [<-e0, <-e1, <-e2, <-e3] at hw;exact ⟨V.po.c.length - (k + 1), oM, (0, _) :: (4, _) :: (6, _) :: (78, _) :: (79, _) :: (80, iQ (k + 1 : Nat)) :: Vh Ds, (xl.mk (by repeat (first | exact fk.nil _ | exact rN _ _ | refine fk.mark ?_ | refine fk.cons rfl ?_)) (by exact rfl)), k + 1, oM, rfl, rfl, (hw.b [ah NA _ _, cB p', row 3 1 (.slice (some ⟨cb, co, none⟩) _ cc) _ _, ah b6 _ _, ah b4 _ _, aV _, row 3 1 (.slice da _ dc) _ _, row 62 3 _ _ _, cj vq V]).tail.tail⟩
 have pA : k = V.po.c.length := oM;subst pA;have hpm : W.Perm (kF A V.po.c.length) := (List.perm_ext_iff_of_nodup B1.nd (QZ A _)).2 fun n => by
  rw [VT, hAW];exact ⟨fun h => ⟨h, Va.PC (UJ n (hWU n h))⟩, fun h => h.1⟩
 have hrp : [iQ l.length, iQ (((kF A V.po.c.length).length : Int)), iQ (jr V.rd 1 (kF A V.po.c.length)), iQ (jr V.rd 2 (kF A V.po.c.length)), iQ (qg V.rd (kF A V.po.c.length)), iQ I0, iQ Y0, nQ] = qu.cells ⟨Dm V.rd ts ts W, nQ⟩ := by
  rw [Py hpm];simp only [Dm, qu.cells, <-hI0, <-hY0, Ov]
 rw [hrp] at hw;refine z3 ?_;refine lA (l := qu.cells ⟨Dm V.rd ts ts W, nQ⟩) aM hw ?_;refine aT (cs := qu.cells ⟨Dm V.rd ts ts W, nQ⟩) (l' := qu.cells ⟨Dm V.rd ts ts W, nQ⟩) rfl tV rfl rfl aM rfl (by intro u hu; simp [qu.cells] at hu; rcases hu with rfl | rfl | rfl | rfl | rfl | rfl | rfl | rfl <;> rfl) hw pK (by simp [qu.cells]) rfl rfl (fun w hw => ?_);refine z3 ?_;refine bB (BQ Ds) ?_;refine w9 hw pK fun w hw => ?_;refine yX rfl ⟨_, rfl, (ar.cU (l := qu.cells ⟨Dm V.rd ts ts W, nQ⟩) aM hw pK rfl)⟩ rfl ⟨Dm V.rd ts ts W, 0, rfl, ⟨.inr ⟨Hn, W, A, B1, .inl ⟨RY, rfl, rfl⟩⟩, rfl⟩, ?_⟩;exact (hw.b [row 3 1 (.slice ca _ cc) _ _, ah b6 _ _, ah b4 _ _, row 3 1 (.slice da _ dc) _ _, row 62 3 _ _ _]).tail.tail.tail.tail.tail
end
theorem Wj {f : Nat} {V : Va} {T : Tr} {key value : bW} {res : Tr × Bool × Int × Va} (aW : V.Ok) (h : LN f V T key value = some res) : res.2.2.2.Ok := by
 unfold LN at h;split at h
 ·cases h; exact aW
 split at h
 ·cases h; exact aW
 split at h
 ·cases h; exact aW
 split at h
 ·cases h; exact aW
 split at h
 ·cases h
 rename_i r hr;split at h
 ·cases h; exact aW
 cases h; exact (Wi (Ln aW key value).ok hr).ok
def UP : Va := dV 9 (List.replicate 6 0) []
def HP : bW := [97, 98, 99, 100, 109, 110, 111, 112, 113]
def MB : Nat -> Option (Tr × Va)
 | 0 => some (tQ, UP)
 | j + 1 => match MB j with
  | none => none
  | some (T, V) => match LN 4 V T [HP.getD j 0] [120, 120] with
    | some (T', _, _, V') => some (T', V')
    | none => none
def YG (j : Nat) : Bool := match MB j with
 | none => false
 | some (T, V) => ((ur V.rd T [HP.getD j 0]).2.1 == false) && (match LN 4 V T [HP.getD j 0] [120, 120] with
   | some (_, b, e, _) => (b == false) && decide (e = 0)
   | none => false) && decide (V.sz <= 100 /\ (0 <= T.aQ /\ T.aQ <= 100) /\ (0 <= T.items /\ T.items <= 100))
theorem Sb : (List.range 9).all YG = true := by decide +kernel
theorem UO {j : Nat} (hj : j < 9) {T : Tr} {V : Va} (h : MB j = some (T, V)) : ∃ T' V', (ur V.rd T [HP.getD j 0]).2.1 = false /\ LN 4 V T [HP.getD j 0] [120, 120] = some (T', false, 0, V') /\ MB (j + 1) = some (T', V') /\ V.sz <= 100 /\ (0 <= T.aQ /\ T.aQ <= 100) /\ (0 <= T.items /\ T.items <= 100) := by
 have h1 := (BL.1 Sb) j (rj.2 hj);unfold YG at h1;rw [h] at h1
 simp only [rR, beq_iff_eq, decide_eq_true_eq] at h1;obtain ⟨⟨h2, h3⟩, h4, h5, h6⟩ := h1;cases hp : LN 4 V T [HP.getD j 0] [120, 120] with
 | none => rw [hp] at h3; cases h3
 | some r =>
  obtain ⟨T', b, e, V'⟩ := r;rw [hp] at h3;simp only [rR, beq_iff_eq, decide_eq_true_eq] at h3
  obtain ⟨rfl, rfl⟩ := h3;refine ⟨T', V', h2, rfl, ?_, h4, h5, h6⟩;rw [MB, h];simp only [hp]
def abE : Bool := match MB 9 with
 | none => false
 | some (T, V) => decide (ss V.rd T = 0 /\ dK [T] = [3] /\ fC V.rd 3 = [1, 2] /\ fC V.rd 1 = [] /\ fC V.rd 2 = [] /\ V.po.c = [1, 1, 1, 0, 0, 0] /\ Dm V.rd [T] [T] [3, 1, 2] = ⟨1, 3, 2, 1, 0, 9, 18, []⟩)
theorem Xc : abE = true := by decide +kernel
theorem Sa {T : Tr} {V : Va} (h : MB 9 = some (T, V)) : qs V.rd V.po.c [T] ⟨1, 3, 2, 1, 0, 9, 18, []⟩ 0 /\ qs V.rd V.po.c [] wZ 18 := by
 have h1 := Xc;unfold abE at h1;rw [h] at h1
 simp only [decide_eq_true_eq] at h1;obtain ⟨h2, h3, h4, h5, h6, h7, h8⟩ := h1;have key : ∀ {rd : Int -> Option Pg} {roots : List Int}, roots = [] -> Vb rd roots [] [] := fun {rd roots} hr => ⟨by simp, by simp [hr], by simp, by simp, by simp⟩
 refine ⟨.inr ⟨by simpa using h2, [3, 1, 2], [3, 1, 2], ⟨by decide, by simp [h3, h4, h5, h6], fun _ h => h, fun _ h => h, fun U hr hc n hn => ?_⟩, .inl ⟨?_, h8.symm, rfl⟩⟩, .inr ⟨by simp, [], [], key rfl, .inr ⟨?_, rfl, rfl⟩⟩⟩
 ·have u3 : U 3 := hr 3 (by rw [h3]; simp);simp at hn;rcases hn with rfl | rfl | rfl
  ·exact u3
  ·exact hc 3 u3 1 (by rw [h4]; simp)
  exact hc 3 u3 2 (by rw [h4]; simp)
 ·rw [h7];exact xj.1 dM
 rw [h7];exact fun hc => absurd (xj.2 hc) dM
section
variable {P : Program} {n : Nat} {ops : Array Oper} {dr : Bool} {done r : List Nat} {K : fm -> World -> Prop} {e : fm} {w : World} {i d s : Nat} {t : TypeId} {p : String} {af : Array Edge} {g : Option (Nat × Bool)}
variable {G : Gh} {L R : List aw}
theorem Y3 {c : TypeId} {z m : Nat} {zc : Array Value} {xs : Array (Nat × Operand)} {vs cs : List Value} (ho : ops[i]? = some ⟨some d, .buildSlice s m xs, t, p, af, g⟩) (hs : P.underlying s = some (.slice c)) (uS : (P.info? c).map (·.size) = some z) (yj : bD P c = some zc) (hz : 0 < m * z /\ m * z <= 16777216)
  (hx : OP e (xs.toList.map (·.2)) = some vs) (hf : Instr.fill (fun i => some (i * z, z)) ((Array.range (m * z)).map (zc[· % zc.size]!)) ((xs.toList.map (·.1)).zip vs) = some cs.toArray) (hw : an G L w)
  (i' : ∀ w' b, an G (ah b cs c :: L) w' -> ∀ q ∈ gU P ops dr done i, uR P n ops q ((d, .slice (some ⟨b, 0, none⟩) m m) :: e) w')
  (h : ∀ w' b, an G (ah b cs c :: L) w' -> XL P n ops dr (i :: done) r K ((d, .slice (some ⟨b, 0, none⟩) m m) :: e) w') (hd : Nat.blt d n = true := by exact rfl) (hg : Gd ops e g := by first | trivial | exact ⟨_, rfl, rfl⟩) : XL P n ops dr done (i :: r) K e w := by
 obtain ⟨hk, hm⟩ := qU hx;refine fU ho (by simpa [cy] using hd) hg (ρ := rh e) (by intro z hz; exact hk z (by simpa [Op.operands] using hz)) rfl (v := .slice (some ⟨w.heap.size, 0, none⟩) m m) (w' := { w with heap := w.heap.push (.cells cs.toArray c (0, 0)) }) ?_ (i' _ _ (hw.push _)) (h _ _ (hw.push _));have e1 : (xs.map fun (j, z) => (j, rh e z)) = ((xs.toList.map (·.1)).zip vs).toArray := by
  apply Array.ext';rw [<-hm];simp only [Array.toList_map]
  generalize xs.toList = q
  induction q with
  | nil => rfl
  | cons x q ih => obtain ⟨a, b⟩ := x; simp only [cH, List.zip_cons_cons, ih]
 cases hi : P.info? c with
 | none => simp [hi] at uS
 | some inf =>
  have ed : inf.size = z := by simpa [hi] using uS
  cases qw : inf.zero with
  | none => simp [bD, hi, qw] at yj
  | some zv =>
   have Ou : zv.cells = zc := by simpa [bD, hi, qw] using yj
   have hnz : ¬ m * z = 0 := oM;have hle : ¬ 16777216 < m * z := oM;simp only [execOp, e1];simp [Instr.buildSlice, run_underlying hs, sizeOf, typeInfo, hi, ed, zeroValue, qw, hnz, hle, Ou, hf, newRow]
end

def Uc (p q : Pg) : Prop := ((p.kind = 1 \/ p.kind = 2) /\ p.kind = q.kind /\ p.level = q.level) /\ 1 <= p.items.length /\ 1 <= q.items.length /\ p.items.length + q.items.length <= 8
instance (p q : Pg) : Decidable (Uc p q) := by unfold Uc; infer_instance

def tot : List Int -> Int
 | [] => 0
 | x :: r => x + tot r
theorem Pk : ∀ {l : List Int} {i : Nat} {x y : Int}, l[i]? = some x -> tot (l.set i y) = tot l - x + y
 | [], i, x, y, h => by simp at h
 | a :: l, 0, x, y, h => by simp at h; subst h; simp only [List.set_cons_zero, tot]; omega
 | a :: l, i + 1, x, y, h => by
  simp only [List.getElem?_cons_succ] at h;simp only [V5, tot, Pk h]; omega
theorem NM : ∀ {l : List Int}, (∀ x ∈ l, 0 <= x) -> 0 <= tot l /\ ∀ x ∈ l, x <= tot l
 | [], h => ⟨by simp [tot], by simp⟩
 | a :: l, h => by
  obtain ⟨h1, h2⟩ := NM (l := l) fun x hx => h x (jN _ hx)
  have h3 := h a (iD ..);refine ⟨by simp only [tot]; omega, fun x hx => ?_⟩;rcases bQ.1 hx with rfl | hx
  ·simp only [tot]; omega
  have := h2 x hx; simp only [tot]; omega
theorem Tc : ∀ {l : List Int} {m : Int}, (∀ x ∈ l, x <= m) -> tot l <= m * l.length
 | [], m, h => by simp [tot]
 | a :: l, m, h => by
  have h1 := Tc (l := l) fun x hx => h x (jN _ hx)
  have h2 := h a (iD ..);simp only [tot, g5];have : m * ((l.length + 1 : Nat) : Int) = m * l.length + m := by rw [Int.natCast_add, Int.mul_add]; simp
  omega
theorem Po.Ok.mem {P : Po} (h : P.Ok) : ∀ x ∈ P.c, 0 <= x /\ x <= P.refs := fun x hx => h.OD P.pa.length (g8 _) x (by rw [vm (g8 _)]; exact hx)
theorem Po.Ok.tot {P : Po} (h : P.Ok) : 0 <= tot P.c /\ tot P.c <= 4294967296 := by
 have h1 := (NM fun x hx => (h.mem x hx).1).1;have h2 := Tc fun x hx => (h.mem x hx).2
 have h3 := h.len;have h4 := h.refs;refine ⟨h1, Int.le_trans h2 ?_⟩;have : P.refs * (P.c.length : Int) <= 65536 * 65536 := Int.mul_le_mul oM oM oM oM;omega
theorem Xf {P : Po} {n : Int} (h : bG P.c n) : tot (P.act n (-1)).c = tot P.c - 1 := by
 show tot (dL P.c n (-1)) = _
 unfold dL;unfold bG at h;have h1 : P.c[(n - 1).toNat]? = some (P.c.getD (n - 1).toNat 0) := by rw [lP, dm oM]; rfl
 rw [Pk h1]; omega
theorem Qd {P : Po} (h : P.Ok) {n : Int} : P.fL n <= tot P.c := by
 have h1 := NM fun x hx => (h.mem x hx).1
 unfold Po.fL fS;split
 ·rename_i ht;unfold bG at ht;refine h1.2 _ ?_;rw [lP, dm oM];exact JW _
 exact h1.1
def Vw.dropAll (g : Vw -> Int -> Int × Vw) : Vw -> List Int -> Int × Vw
 | x, [] => (0, x)
 | x, k :: r => if (g x k).1 ≠ 0 then g x k else Vw.dropAll g (g x k).2 r
def Vw.dropF : Nat -> Vw -> Int -> Int × Vw
 | 0, x, _ => (15, x)
 | f + 1, x, n => if x.v.fL n = 0 then (15, x) else if x.v.fL n ≠ 1 then (0, x.act n (-1)) else Vw.dropAll (Vw.dropF f) ((x.act n (-1)).free n) (cL ((x.act n (-1)).v.pg n))
theorem AN {g : Vw -> Int -> Int × Vw} {k : Int} : ∀ {l : List Int} {x y : Vw}, Vw.dropAll g x l = (0, y) -> (g y k).1 = 0 -> Vw.dropAll g x (l ++ [k]) = (0, (g y k).2)
 | [], x, y, h, h1 => by cases h; simp [Vw.dropAll, h1]
 | a :: l, x, y, h, h1 => by
  rw [Vw.dropAll] at h;rw [iC, Vw.dropAll];split at h
  ·rename_i h2; rw [h] at h2; exact absurd rfl h2
  rename_i h2; rw [aj h2]; exact AN h h1
theorem Da {g : Vw -> Int -> Int × Vw} {r : List Int} : ∀ {l : List Int} {x y : Vw}, Vw.dropAll g x l = (0, y) -> Vw.dropAll g x (l ++ r) = Vw.dropAll g y r
 | [], x, y, h => by cases h; rfl
 | a :: l, x, y, h => by
  rw [Vw.dropAll] at h;rw [iC, Vw.dropAll];split at h
  ·rename_i h2; rw [h] at h2; exact absurd rfl h2
  rename_i h2; rw [aj h2]; exact Da h
structure Dr (V : Va) (k : Int) (x : Vw) : Prop where
 g : kg V x
 ok : x.v.po.Ok
 t : Wt x
 pa : x.v.po.pa.length + tot x.v.po.c <= V.po.pa.length + k
 was : x.was.length + tot x.v.po.c <= k
theorem Dr.act {V : Va} {k : Int} {x : Vw} (h : Dr V k x) {n : Int} (hc : x.v.po.fL n ≠ 0) : Dr V k (x.act n (-1)) /\ ((x.act n (-1)).was.length : Int) + tot (x.act n (-1)).v.po.c + 1 <= k /\ tot (x.act n (-1)).v.po.c = tot x.v.po.c - 1 := by
 have h1 := jY hc;have h2 := h.ok.fL n;have h3 := Xf (P := x.v.po) h1;have h4 := h.pa;have h5 := h.was;have h6 : (x.act n (-1)).v.po.pa.length = x.v.po.pa.length + 1 := by simp [Vw.act, Po.act]
 have h7 : (x.act n (-1)).was = x.was := rfl;have h8 : tot (x.act n (-1)).v.po.c = tot x.v.po.c - 1 := h3;refine ⟨⟨h.g.act h1, h.ok.act h1 (.inr rfl) oM, h.t.act h1 hc, by rw [h6, h8]; omega, by rw [h7, h8]; omega⟩, by rw [h7, h8]; omega, h8⟩
theorem Dr.free {V : Va} {k : Int} {x : Vw} (h : Dr V k x) (hw : (x.was.length : Int) + tot x.v.po.c + 1 <= k) (n : Int) : Dr V k (x.free n) /\ tot (x.free n).v.po.c = tot x.v.po.c := by
 have ht := h.t.free h.ok n;unfold Vw.free at ht ⊢;split
 ·rename_i hs;rw [ao hs] at ht;exact ⟨⟨h.g.put n none, h.ok, ht, h.pa, by simp only [Vw.put, de, mG]; omega⟩, rfl⟩
 exact ⟨h, rfl⟩
theorem Dr.all {V : Va} {k : Int} {g : Vw -> Int -> Int × Vw} (hg : ∀ x n, Dr V k x -> Dr V k (g x n).2 /\ tot (g x n).2.v.po.c <= tot x.v.po.c) : ∀ {l : List Int} {x : Vw}, Dr V k x -> Dr V k (Vw.dropAll g x l).2 /\ tot (Vw.dropAll g x l).2.v.po.c <= tot x.v.po.c
 | [], x, h => ⟨h, rQ _⟩
 | n :: l, x, h => by
  obtain ⟨h1, h2⟩ := hg x n h;rw [Vw.dropAll];split
  ·exact ⟨h1, h2⟩
  obtain ⟨h3, h4⟩ := Dr.all hg (l := l) h1;exact ⟨h3, oM⟩
theorem Dr.drop {V : Va} {k : Int} : ∀ (f : Nat) (x : Vw) (n : Int), Dr V k x -> Dr V k (x.dropF f n).2 /\ tot (x.dropF f n).2.v.po.c <= tot x.v.po.c
 | 0, x, n, h => ⟨h, rQ _⟩
 | f + 1, x, n, h => by
  rw [Vw.dropF];split
  ·exact ⟨h, rQ _⟩
  rename_i hc;obtain ⟨h1, h2, h3⟩ := h.act hc;split
  ·refine ⟨h1, ?_⟩
   show tot (x.act n (-1)).v.po.c <= _
   omega
  obtain ⟨h4, h5⟩ := h1.free h2 n;obtain ⟨h6, h7⟩ := Dr.all (fun x n => Dr.drop f x n) (l := cL ((x.act n (-1)).v.pg n)) h4;exact ⟨h6, oM⟩
theorem Dr.start {V : Va} (aW : V.Ok) : Dr V (tot V.po.c) ⟨V, []⟩ := ⟨kg.refl V, aW.po, Wt.refl aW.toNl, rQ _, by simp⟩
def Vc (f : Nat) : Prop := ∀ {G : Gh} {L : List aw} {w : World} {vq b : Nat} {mk n : Int} {x : Vw} {V : Va} {k : Int}, an G (tP vq b mk x :: L) w -> Dr V k x -> k <= 1000000000000 -> V.po.pa.length <= 1000000000000 -> tot x.v.po.c <= f →
 Calls prog 117 #[pQ vq, pQ b, iQ n] w (bU fun r w' => r = iQ (x.dropF f n).1 /\ an G (tP vq b mk (x.dropF f n).2 :: L) w')
section
variable {G : Gh} {L R : List aw} {w : World}
theorem Jq {f : Nat} (ih : ∀ j, f = j + 1 -> Vc j) {vq b : Nat} {mk n : Int} {x : Vw} {V : Va} {k : Int} (hw : an G (tP vq b mk x :: L) w) (hd : Dr V k x) (hk : k <= 1000000000000) (hV : V.po.pa.length <= 1000000000000) (hf : tot x.v.po.c <= f) :
  Calls prog 117 #[pQ vq, pQ b, iQ n] w (bU fun r w' => r = iQ (x.dropF f n).1 /\ an G (tP vq b mk (x.dropF f n).2 :: L) w') := by
 obtain ⟨m, UD, hw⟩ := iV hw;have aW := hd.ok;have ZM := aW.tot;have hpa := hd.pa;have hwa := hd.was;obtain ⟨lf, OA⟩ : ∃ z : Int, z = if x.v.po.fL n = 0 then 0 else x.v.po.fL n - 1 := ⟨_, rfl⟩
 obtain ⟨er, Nu⟩ : ∃ z : Int, z = if x.v.po.fL n = 0 then 15 else 0 := ⟨_, rfl⟩
 obtain ⟨x1, Jb⟩ : ∃ z : Vw, z = { x with v := { x.v with po := x.v.po.dec n } } := ⟨_, rfl⟩;have RW : VF x1 m := by rw [Jb]; exact ⟨⟨UD.f.on, UD.f.Nq, UD.f.sm, UD.f.eW, UD.f.KO⟩, UD.ws, UD.X6⟩
 have Mr := aW.fL n;refine ad (args := [_, _, _]) func117 rfl ntmps117 rfl rfl ?_;refine z9 ?_;refine lD (v := .pointer (some ⟨m.m.q, 0, none⟩)) aZ hw ?_;refine z1 ?_;refine al rfl q4 rfl (so (P := x.v.po) (n := n) (hw.b [iE m.m.q x.v.po]) aW oM) rfl fun w Sw hv => ?_;rw [<-OA, <-Nu] at hv;obtain ⟨rfl, hw⟩ := hv;have hz := hw.b [iE m.m.q _, ah b _ _, row 359 _ _ _ _, ah vq _ _, bH _ _, oy _, row 284 _ _ _ _, aV (m.m.eW.map kp)];clear hw;have hz := hz.b [ah b _ _, row 359 _ _ _ _, ah vq _ _, bH _ _, oy _, row 284 _ _ _ _, aV (m.m.eW.map kp), iE m.m.q _];have hw : an G (tP vq b mk x1 :: L) w := gw (x := x1) (m := m) RW (by rw [Jb]; exact hz);clear hz;refine yb ?_;refine cu (l1 := [3, 4, 5]) (l2 := []) rfl (d := 27) (er ≠ 0 \/ 0 < lf) rfl ?_ ?_
 ·
  refine ay (d := 24) rfl (fun h1 => ?_) fun h1 => ?_
  ·
   refine z4 ?_;refine cQ ?_;exact dC
  refine z4 ?_;refine cQ ?_;exact dC
 refine aC ?_;refine aE rfl (fun h2 => ?_) fun h2 => ?_
 ·
  refine z6 ?_;exact aK rfl rfl rfl (by
 by_cases hc : x.v.po.fL n = 0
 ·have e : x.dropF f n = (15, x) := by cases f with | zero => rfl | succ f => rw [Vw.dropF, ao (show x.v.fL n = 0 from hc)]
  have e1 : x1 = x := by rw [Jb]; unfold Po.dec; rw [ao hc]
  rw [e, Nu, ao hc];rw [e1] at hw;exact ⟨rfl, hw⟩
 ·have Uz : ¬ x.v.po.fL n = 1 := by rw [OA, Nu, aj hc, aj hc] at h2; omega
  obtain ⟨j, rfl⟩ : ∃ j, f = j + 1 := ⟨f - 1, by have := Qd aW (n := n); omega⟩;have e : x.dropF (j + 1) n = (0, x.act n (-1)) := by rw [Vw.dropF, aj (show ¬ x.v.fL n = 0 from hc), ao (show x.v.fL n ≠ 1 from Uz)]
  have e1 : x1 = x.act n (-1) := by rw [Jb]; unfold Po.dec; rw [aj hc]; rfl
  rw [e, Nu, aj hc];rw [e1] at hw;exact ⟨rfl, hw⟩)
 have hc : ¬ x.v.po.fL n = 0 := fun h => by rw [Nu, ao h] at h2; exact h2 (.inl dM)
 have Uz : x.v.po.fL n = 1 := by rw [OA, aj hc] at h2; omega
 have e1 : x1 = x.act n (-1) := by rw [Jb]; unfold Po.dec; rw [aj hc]; rfl
 obtain ⟨j0, rfl⟩ : ∃ j, f = j + 1 := ⟨f - 1, by have := Qd aW (n := n); omega⟩;have ih : Vc j0 := ih j0 rfl;obtain ⟨Nw, aa7, acf⟩ := hd.act hc;have hle : x.dropF (j0 + 1) n = Vw.dropAll (Vw.dropF j0) (x1.free n) (cL (x1.v.pg n)) := by rw [Vw.dropF, aj (show ¬ x.v.fL n = 0 from hc), aj (fun h => h Uz), e1]
 rw [<-e1] at Nw aa7 acf;obtain ⟨m1, C6, hw⟩ := iV hw;obtain ⟨p0, b0, Mj, -, jd, -, hS, hZ, tW⟩ := Ed C6.f n hw (L := Ss vq b mk x1 m1 L) pK;have xe : p0.Ok (Ss vq b mk x1 m1 L) := by
  cases b0 with
  | true => exact vd (hS rfl) (C6.f.sm _ (hS rfl)) pK
  | false => rw [hZ rfl]; exact N9
 have hk9 : (cL (x1.v.pg n)).length <= 9 := by
  unfold Va.pg;cases ho : x1.v.on n with
  | none => decide
  | some p => exact vH (Nw.t.ck n p ho)
 refine z6 ?_;refine lD bV hw ?_;refine z1 ?_;refine u0 (v0 := gQ p0.cells) rfl cJ cP jF rfl rfl hw pK Mj ?_;refine al rfl nv rfl (pC (p := p0) hw xe) rfl fun w v35 hv => ?_;rw [tW] at hv;obtain ⟨l, hl⟩ : ∃ l, l = cL (x1.v.pg n) := ⟨_, rfl⟩;rw [<-hl] at hv hle hk9
 obtain ⟨ka, kc, rfl⟩ := aP hv;have hw := gw C6 (hv.b [ah b _ _, row 359 _ _ _ _, ah vq _ _, bH _ _, oy _, row 284 _ _ _ _, aV (m1.m.eW.map kp), iE m1.m.q _, row 3 1 _ _ _]);refine z7 ?_;refine al rfl nX rfl (oW (n := n) hw Nw.ok oM) rfl fun w X9 hv => ?_;obtain ⟨rfl, hw⟩ := hv;obtain ⟨P1, adU⟩ := Nw.free aa7 n;refine z9 ?_;refine bF (fun m e w => ∃ (j : Nat) (y : Vw), j <= l.length /\ m = l.length - j /\ e = [(0, pQ vq), (1, pQ b), (40, .slice ka l.length kc), (41, iQ l.length), (42, iQ j)] /\ (Vw.dropAll (Vw.dropF j0) (x1.free n) (l.take j) = (0, y) /\ Dr V k y /\ tot y.v.po.c <= j0) /\ an G (tP vq b mk y :: row 3 1 (.slice ka l.length kc) l.length (bg l) :: L) w)
  (m := l.length) sB
  ⟨0, x1.free n, dy _, rfl, rfl, ⟨rfl, P1, oM⟩, hw⟩ ?_
 rintro m e w ⟨j, y, hj, rfl, rfl, ⟨Ul, hy2, hy3⟩, hw⟩;refine z5 ?_;refine aE rfl (fun h3 => ?_) fun h3 => ?_
 ·
  have Jh : j < l.length := oM;obtain ⟨kk, C7⟩ : ∃ k, l[j]? = some k := ⟨_, dm Jh⟩;have OB : (bg l)[j]? = some (iQ kk) := by simp only [bg, dg, C7]; rfl
  have s7 : ∀ R, aG (row 3 1 (.slice ka l.length kc) l.length (bg l) :: R) (qx (.slice ka l.length kc) (bg l)) := fun R => uk
  obtain ⟨bb, oo, hka⟩ := (((s7 _).of sF).at hw).nn (by rw [bC]; omega);rw [hka];have hgo := Dr.drop j0 y kk hy2;refine z5 ?_;refine cR rfl bp cm rfl rfl ⟨oM, oM⟩ ?_;refine bt rfl rfl (ar.one (v := iQ kk) ag (by have h := (((s7 _).of sF).at hw); rw [hka] at h; exact h.at (by rw [ez]; exact OB))) ?_;refine z7 ?_;refine al rfl nY rfl (@ih G _ _ vq b mk kk y V k hw hy2 hk hV hy3) rfl fun w X8 hv => ?_;obtain ⟨rfl, hw⟩ := hv;refine z7 ?_;refine aE rfl (fun h4 => ?_) fun h4 => ?_
  ·
   refine z6 ?_;exact aK rfl rfl rfl (by
 rw [hle];have e : Vw.dropAll (Vw.dropF j0) (x1.free n) l = y.dropF j0 kk := by
  have h5 := Da (r := l.drop j) Ul;rw [N7, eF C7, Vw.dropAll, ao h4] at h5;exact h5
 rw [e];exact ⟨rfl, (hw.b [row 3 1 _ _ _]).tail⟩)
  refine z5 ?_;exact ⟨l.length - (j + 1), oM, [(0, _), (1, _), (40, _), (41, _), (42, iQ (j + 1 : Nat))], sB, j + 1, (y.dropF j0 kk).2, oM, rfl, rfl, ⟨by rw [cC C7]; exact AN Ul (c6.1 h4), hgo.1, oM⟩, by rw [<-hka]; exact hw⟩
 refine z6 ?_;exact aK rfl rfl rfl (by
 rw [oF oM] at Ul;rw [hle, Ul];exact ⟨rfl, (hw.b [row 3 1 _ _ _]).tail⟩)
theorem oX : ∀ f, Vc f
 | 0 => fun hw hd hk hV hf => Jq (fun j h => by cases h) hw hd hk hV hf
 | f + 1 => fun hw hd hk hV hf => Jq (fun j h => by cases h; exact oX f) hw hd hk hV hf
end
def Va.vP (V : Va) (n : Int) : Int × Vw := (⟨V, []⟩ : Vw).dropF (tot V.po.c).toNat n
def Va.drop (V : Va) (n : Int) : Int × Va := if (V.vP n).1 ≠ 0 then ((V.vP n).1, V) else (0, V.done (V.vP n).2)
theorem Dr.x {V : Va} (aW : V.Ok) (n : Int) : Dr V (tot V.po.c) (V.vP n).2 := (Dr.drop _ _ n (Dr.start aW)).1
theorem Dr.wk {V : Va} {k : Int} {x : Vw} (aW : V.Ok) (h : Dr V k x) (hk : k <= 4294967296) : Wk V 4294967296 x := by
 have h1 := h.ok.tot;have h2 := h.pa;have h3 := h.was;exact ⟨h.g, h.ok, oM, oM⟩
theorem Lt.drop {V : Va} (aW : V.Ok) (n : Int) : Lt V 4294967297 (V.drop n).2 := by
 unfold Va.drop;split
 ·exact (Lt.refl aW).mono oM
 exact Lt.done aW ((Dr.x aW n).wk aW aW.po.tot.2) (Dr.x aW n).t oM
def EU (V : Va) (x : It) : Int × Va := if x.size <= 32 then (0, V) else V.drop x.child
theorem Lt.rel {V : Va} (aW : V.Ok) (x : It) : Lt V 4294967297 (EU V x).2 := by
 unfold EU;split
 ·exact (Lt.refl aW).mono oM
 exact Lt.drop aW _
section
variable {G : Gh} {L R : List aw} {w : World}
theorem uy {vq b b1 b2 : Nat} {mk n : Int} {V : Va} (hw : an G (tP vq b mk ⟨V, []⟩ :: ah b1 [pQ vq] 28 :: ah b2 [iQ n] 3 :: L) w) (aW : V.Ok) (ed : V.sz <= 1000000000000) :
  Calls prog 116 #[pQ b, pQ b1, pQ b2] w (bU fun r w' => r = iQ (V.vP n).1 /\ an G (tP vq b mk (V.vP n).2 :: ah b1 [pQ vq] 28 :: ah b2 [iQ n] 3 :: L) w') := by
 have kO : V.po.pa.length <= 1000000000000 := by have := aW.pf; have := aW.vf; unfold Va.sz at ed; omega
 have ZM := aW.po.tot;refine ad (args := [_, _, _]) func116 rfl ntmps116 rfl rfl ?_;refine z6 ?_;refine lD (v := pQ vq) aA hw ?_;refine z1 ?_;refine lD (v := iQ n) ag hw ?_;refine al rfl nY rfl (oX (tot V.po.c).toNat (x := ⟨V, []⟩) (n := n) hw (Dr.start aW) oM kO (by show tot V.po.c <= _; omega)) rfl (fun w v8 hv => ?_);obtain ⟨rfl, hw⟩ := hv;refine z3 ?_;exact aK rfl rfl rfl ⟨rfl, hw⟩
theorem xJ {vq : Nat} {V : Va} {n : Int} (hw : an G (cj vq V :: L) w) (aW : V.Ok) (ed : V.sz <= 1000000000000) :
  Calls prog 54 #[pQ vq, iQ n] w (bU fun r w' => r = iQ (V.drop n).1 /\ an G (cj vq (V.drop n).2 :: L) w') := by
 refine ad (args := [_, _]) func54 rfl ntmps54 rfl rfl ?_;refine z2 ?_;refine a9 rfl rfl rfl hw rfl fun w b2 hw => ?_;refine a9 rfl rfl rfl hw rfl fun w b3 hw => ?_;refine z4 ?_;refine lD (v := pQ vq) aA hw ?_;refine gP (v1 := #[]) (v2 := #[pQ b2, pQ b3]) rfl (by intro z hz; simp at hz; rcases hz with rfl | rfl <;> exact ⟨_, rfl⟩) sM (by simp only [jM, cH, gE]; rfl) ?_;refine al rfl iL rfl (jz (fn := 116) (caps := #[pQ b2, pQ b3]) (Q := fun e x L' => e = (V.vP n).1 /\ x = (V.vP n).2 /\ L' = ah b2 [pQ vq] 28 :: ah b3 [iQ n] 3 :: L) (hw.b [cj vq V, ah b2 _ _, ah b3 _ _]) aW ed tE (fun w b hw => jL (uy hw aW ed) (fun r w' h => by
 have RL := (Dr.x aW n).wk aW aW.po.tot.2;exact ⟨_, _, _, h.1, RL.g, RL.ok, by have := RL.sz; omega, by have := RL.was; omega, ⟨rfl, rfl, rfl⟩, h.2⟩))) rfl (fun w v7 hv => ?_)
 obtain ⟨er, x, L', rfl, -, ⟨rfl, rfl, rfl⟩, gn⟩ := hv;refine z3 ?_;exact aK rfl rfl rfl (by
 by_cases h1 : (V.vP n).1 = 0
 ·have hw := (gn.resolve_left (fun h => h.1 h1)).2;have e : V.drop n = (0, V.done (V.vP n).2) := by unfold Va.drop; rw [aj (fun h => h h1)]
  rw [e, h1];exact ⟨rfl, (hw.b [ah b2 _ _, ah b3 _ _]).tail.tail⟩
 ·have hw := (gn.resolve_right (fun h => h1 h.1)).2;have e : V.drop n = ((V.vP n).1, V) := by unfold Va.drop; rw [ao h1]
  rw [e];exact ⟨rfl, (hw.b [ah b2 _ _, ah b3 _ _]).tail.tail⟩)
theorem DR {vq : Nat} {V : Va} {x : bO} (hw : an G (cj vq V :: L) w) (aW : V.Ok) (ed : V.sz <= 1000000000000) :
  Calls prog 168 #[pQ vq, gQ x.cells] w (bU fun r w' => r = iQ (EU V x.it).1 /\ an G (cj vq (EU V x.it).2 :: L) w') := by
 refine ad (args := [_, _]) func168 rfl ntmps168 rfl rfl ?_;refine z2 ?_;refine a9 rfl rfl rfl hw rfl fun w b3 hw => ?_;refine z6 ?_;refine lD (v := iQ x.it.size) ag hw ?_;refine z2 ?_;refine aE rfl (fun h1 => ?_) fun h1 => ?_
 ·
  refine z5 ?_;exact aK rfl rfl rfl (by
 have e : EU V x.it = (0, V) := by unfold EU; rw [ao h1]
 rw [e];exact ⟨rfl, (hw.b [ah b3 _ _]).tail⟩)
 refine z5 ?_;refine lD (v := iQ x.it.child) ag hw ?_;refine al rfl wE rfl (xJ (n := x.it.child) (hw.b [cj vq V]) aW ed) rfl fun w v11 hv => ?_;obtain ⟨rfl, hw⟩ := hv;refine z3 ?_;exact aK rfl rfl rfl (by
 have e : EU V x.it = V.drop x.it.child := by unfold EU; rw [aj h1]
 rw [e];exact ⟨rfl, (hw.b [ah b3 _ _]).tail⟩)
end


def T5 (p q : Pg) (b : Bool) : Prop := ((p.kind = 1 \/ p.kind = 2) /\ p.kind = q.kind /\ p.level = q.level) /\ (if b = true then 2 <= p.items.length /\ 1 <= q.items.length /\ q.items.length < 8 else 2 <= q.items.length /\ 1 <= p.items.length /\ p.items.length < 8)
instance (p q : Pg) (b : Bool) : Decidable (T5 p q b) := by unfold T5; infer_instance
section
variable {G : Gh} {L R : List aw} {w : World}
theorem DQ {p : bT} {x : bO} {at_ : Nat} (hw : an G L w) (hp : p.Ok L) (Av : Hh p.s) (hx : x.Ok L) (h8 : p.l.length <= 1000000) : Calls prog 167 #[gQ p.cells, iQ at_, gQ x.cells] w (bU fun r w' =>
  (¬ at_ < p.l.length /\ r = .tuple #[gQ eh.cells, .bool false] /\ an G L w') ∨
  (at_ < p.l.length /\ ∃ p' : bT, r = .tuple #[gQ p'.cells, .bool true] /\ p'.pg = { p.pg with items := p.pg.items.take at_ ++ [x.it] ++ p.pg.items.drop (at_ + 1) } /\ p'.Sm /\ an G (cB p' :: L) w')) := by
 obtain ⟨a1, c1, a2, c2, hs, hd, gN⟩ := hp.form hw;have m8 := hp.its;rw [hs] at m8;have Un := Av;rw [hs] at Un
 refine ad (args := [_, _, _]) func167 rfl ntmps167 rfl rfl ?_;refine z2 ?_;refine a9 rfl rfl rfl hw rfl fun w b3 hw => ?_;refine a9 rfl rfl rfl hw rfl fun w b5 hw => ?_;refine aF rfl bE hw rfl fun w b6 hw => ?_;refine z8 ?_;refine cu (l1 := [3, 4, 5, 6, 7, 8]) (l2 := []) rfl (d := 18) ((p.l.length : Int) <= at_) rfl ?_ ?_
 ·
  refine ay (d := 12) rfl (fun h1 => ?_) fun h1 => ?_
  ·
   refine z7 ?_;refine cQ ?_;exact dC
  refine z2 ?_;refine bt rfl rfl (ar.bL (v := .slice a1 p.l.length c1) az hw pK (by rw [gN]; rfl)) ?_;refine eJ rfl kR aJ rfl ?_;refine z3 ?_;refine cQ ?_;exact dC
 refine aC ?_;refine aE rfl (fun h2 => ?_) fun h2 => ?_
 ·
  refine z2 ?_;refine aO (v := gQ eh.cells) rfl rfl (fun w => kR) ?_;refine aT (cs := eh.cells) (l' := eh.cells) rfl tV rfl rfl ae rfl cT hw pK (by simp [eh, bT.cells]) rfl rfl fun w hw => ?_;refine z3 ?_;exact cz rfl rfl ⟨_, rfl, (ar.cU ae hw pK rfl)⟩ rfl (.inl ⟨oM, rfl, (by repeat (first | exact hw | replace hw := hw.tail))⟩)
 refine z4 ?_;refine bt rfl rfl (ar.bL (v := .slice a1 p.l.length c1) az hw pK (by rw [gN]; rfl)) ?_;refine z1 ?_;refine al rfl qk rfl (rB (l := p.l) hw (m8.of sF) Un oM) rfl fun w Sv hv => ?_;obtain ⟨va, vb, rfl, HA, K0, hw⟩ := hv;obtain ⟨aa, ac, rfl, -, -⟩ := ((HA.of sF).sl.at hw).form;obtain ⟨ba, bc, rfl, -, -⟩ := ((K0.of sF).sl.at hw).form;obtain ⟨Nw, P1, hd3⟩ := ((K0.of sF).sl.at hw).Pt;have Vv : ((p.l.drop at_).map bO.cells).length = p.l.length - at_ := by rw [bX, gT]
 refine z7 ?_;refine bd [0, 1, 2, 4, 5, 3, 6, 7, 8, 9] bJ kR ?_;replace hw := hw.drawn (w.drawn + 1);refine lA (l := p.cells) ae hw ?_;refine z1 ?_;refine lA (l := x.cells) aD hw ?_;refine z1 ?_;refine JK rfl aJ bf rfl rfl ⟨oM, oM⟩ oM (fun h => P1 oM) fun S7 ac5 ac4 => ?_;have htc : kL _ S7 ((p.l.drop at_).drop 1) := K0.drop (j := 1) (by rw [gT]; omega) ac5 ac4;obtain ⟨da, dc, rfl, -, -⟩ := ((htc.of sF).sl.at hw).form;refine yN (cs := x.cells) rfl aJ bf eX dM rfl rfl rfl hw (fun w YO hw q' hq => ?_) fun w YO hw => ?_
 ·
  have hq := bm (l := [0]) kR hq;simp only [bQ, dz, or_false] at hq;subst hq;exact bx rfl rfl rfl (ar.cU (l := p.cells) ae hw pK rfl)
 refine Y3 (cs := [.slice aa ((p.l.take at_).map bO.cells).length ac, sQ YO 1 1, .slice da (((p.l.drop at_).drop 1).map bO.cells).length dc]) rfl gr jK x9 dM rfl kR hw (fun w b33 hw q' hq => ?_) fun w b33 hw => ?_
 ·
  have hq := bm (l := [0]) kR hq;simp only [bQ, dz, or_false] at hq;subst hq;exact bx rfl rfl rfl (ar.cU (l := p.cells) ae hw pK rfl)
 refine al rfl nw rfl (pD (p := p) (pcs := [(.slice aa ((p.l.take at_).map bO.cells).length ac, p.l.take at_), (sQ YO 1 1, [x]), (.slice da (((p.l.drop at_).drop 1).map bO.cells).length dc, (p.l.drop at_).drop 1)]) hw (hp.of sF) ((Ec (cs := [.slice aa ((p.l.take at_).map bO.cells).length ac, sQ YO 1 1, .slice da (((p.l.drop at_).drop 1).map bO.cells).length dc])).head _) (by
 intro y hy;simp only [bQ, dz, or_false] at hy;rcases hy with rfl | rfl | rfl
 ·exact HA.of sF
 ·exact ⟨((Pv (r := x.cells) rfl).head _).of sF, (fun z hz => by simp at hz; subst hz; exact hx.of sF), by simp⟩
 ·exact htc.of sF) sM (by
 intro y hy;simp only [bQ, dz, or_false] at hy;rcases hy with rfl | rfl | rfl
 ·simp only [fB]; omega
 ·simp
 ·simp only [gT]; omega)) kR (fun w X' hv => ?_)
 obtain ⟨p', rfl, Dy, gG, hw⟩ := hv;refine aT (cs := p'.cells) (l' := p'.cells) rfl tV rfl rfl ae rfl (dX (aS gG pK) hw) hw pK (by simp [bT.cells]) rfl kR fun w hw => ?_;refine z3 ?_;exact cz rfl rfl ⟨_, rfl, (ar.cU ae hw pK rfl)⟩ rfl (.inr ⟨oM, p', rfl, by rw [Dy]; simp [bT.pg], gG, (hw.b [ah b6 _ _, ah b3 _ _, ah b5 _ _, ah YO _ _, ah b33 _ _]).tail.tail.tail.tail.tail⟩)
end

structure PgF (p : bT) (ib ic : Nat) (cur : List Value) : Prop where
 s : p.s = sQ ib p.l.length ic
 c1 : p.l.length <= ic
 c2 : ic <= maxLen
 c3 : ((p.l.map bO.cells).flatten ++ cur).length = ic * 4
theorem Wn {p : bT} {G : Gh} {L : List aw} {w : World} (h : an G (cB p :: L) w) (hn : 0 < p.l.length) : ∃ ib ic cur, PgF p ib ic cur /\ an G (ah ib ((p.l.map bO.cells).flatten ++ cur) 198 :: aV (p.l.flatMap bw) :: row 5 1 p.d p.data.length (cD p.data) :: L) w := by
 have hz := an.cF (M := fV p) h;simp only [fV, iC, ie] at hz;obtain ⟨ra, rc, hs⟩ := aP hz;rw [hs] at hz
 obtain ⟨Ej, sb, cur, OE, hcc, Nx, gN, hw⟩ := hY hz hn;exact ⟨sb, rc, cur, ⟨by rw [hs, OE], hcc, Nx, gN⟩, hw⟩
theorem TH {p : bT} {G : Gh} {L R : List aw} {w : World} (hw : an G L w) (hp : cG (cB p) L R) (hn : 0 < p.l.length) : ∃ ib ic, p.s = sQ ib p.l.length ic := by
 obtain ⟨ib, ic, cur, hf, _⟩ := Wn (hw.pick hp) hn;exact ⟨ib, ic, hf.s⟩
def Ly (new : It) (V : Va) (T : Tr) (n : Int) (p : Pg) : Va × Tr × Int :=
 let at_ := (dD new.key p.items 0).1
 if p.items.length <= at_ then (V, T, 5) else
 let w := V.write n { p with items := p.items.take at_ ++ [new] ++ p.items.drop (at_ + 1) }
 if w.1 ≠ 0 then (w.2, T, w.1) else
 let r := EU w.2 (p.items.getD at_ Me)
 (r.2, T, r.1)
def Vi (b : Bool) (new : It) : Va -> Tr -> Int -> Pg -> Va × Tr × Int := if b = true then Ly new else G7 new
def lfF (b : Bool) : Nat := if b = true then 92 else 91
def J0 (f : Nat) (V : Va) (T : Tr) (key value : bW) : Option (Tr × Bool × Int × Va) :=
 if ¬ (1 <= key.length /\ key.length <= 24) then some (tQ, false, 7, V) else if 3840 < value.length then some (tQ, false, 8, V) else
 if (ur V.rd T key).2.2 ≠ 0 then some (tQ, false, (ur V.rd T key).2.2, V) else
 if (dH V key value).1 ≠ 0 then some (tQ, false, (dH V key value).1, V) else
 match Dq (dH V key value).2.1 (Vi (ur V.rd T key).2.1 (dH V key value).2.1) f (dH V key value).2.2 T with
 | none => none
 | some r => some (if r.2.2 ≠ 0 then (tQ, false, r.2.2, V) else (r.2.1, (ur V.rd T key).2.1, 0, r.1))
theorem Lt.rep {V : Va} (aW : V.Ok) (new : It) (T : Tr) (n : Int) (p : Pg) : Lt V 4294967300 (Ly new V T n p).1 := by
 unfold Ly;simp only;have h := Lt.write aW n { p with items := p.items.take (dD new.key p.items 0).1 ++ [new] ++ p.items.drop ((dD new.key p.items 0).1 + 1) };split
 ·exact (Lt.refl aW).mono oM
 split
 ·exact h.mono oM
 exact (h.trans (Lt.rel h.ok _)).mono oM
theorem Zy (b : Bool) (new : It) : ∀ (V : Va) (T : Tr) (n : Int) (p : Pg), V.Ok -> Lt V 4294967300 (Vi b new V T n p).1 := fun V T n p aW => by
 unfold Vi;split
 ·exact Lt.rep aW _ _ _ _
 exact (Lt.add aW _ _ _ _).mono oM
theorem LO {key : bW} {leaf : Va -> Tr -> Int -> Pg -> Va × Tr × Int} (hl : ∀ (V : Va) (T : Tr) (n : Int) (p : Pg), V.Ok -> Lt V 4294967300 (leaf V T n p).1) {r : Va × Tr × Int} : ∀ {f : Nat} {V : Va} {T : Tr} {n : Int}, V.Ok -> E0 key leaf f V T n = some r -> Lt V (20 * f + 4294967300) r.1
 | 0, V, T, n, _, h => by rw [E0] at h; cases h
 | f + 1, V, T, n, aW, h => by
  rw [E0] at h;split at h
  ·cases h; exact (Lt.refl aW).mono oM
  split at h
  ·cases h; exact (hl _ _ _ _ aW).mono oM
  have hd := Lt.down aW n (by assumption) key;split at h
  ·cases h; exact hd.mono oM
  exact (hd.trans (LO hl hd.ok h)).mono oM
theorem TA {new : It} {leaf : Va -> Tr -> Int -> Pg -> Va × Tr × Int} (hl : ∀ (V : Va) (T : Tr) (n : Int) (p : Pg), V.Ok -> Lt V 4294967300 (leaf V T n p).1) {r : Va × Tr × Int} {f : Nat} {V : Va} {T : Tr} (aW : V.Ok) (h : Dq new leaf f V T = some r) : Lt V (20 * f + 4294967321) r.1 := by
 unfold Dq at h;split at h
 ·cases h; exact (Lt.make aW _).mono oM
 have hr := Lt.root aW T;split at h
 ·cases h; exact hr.mono oM
 exact (hr.trans (LO hl hr.ok h)).mono oM
section
variable {G : Gh} {L R : List aw} {w : World}
theorem uC {vq xq : Nat} {V : Va} {T : Tr} {x : bO} {was : Bool} {n : Int} {p : bT} (hw : an G (cj vq V :: ah xq (yQ vq T x was) 200 :: cB p :: L) w) (aW : V.Ok) (ed : V.sz <= 999999999900) (hx : x.Ok L) (gG : p.Sm) (hT : 0 <= T.items /\ T.items <= 1000000000000) (qE : V.rd n = some p.pg) :
  Calls prog 92 #[pQ xq, iQ n, gQ p.cells] w (bU fun r w' => r = iQ (Ly x.it V T n p.pg).2.2 /\ an G (cj vq (Ly x.it V T n p.pg).1 :: ah xq (yQ vq (Ly x.it V T n p.pg).2.1 x was) 200 :: L) w') := by
 have kO : p.pg.items.length = p.l.length := by simp [bT.pg]
 have hp8 := (eZ (Va.vk aW qE)).1;obtain ⟨ia, ic, hs⟩ := gG.form hw pK;refine ad (args := [_, _, _]) func92 rfl ntmps92 rfl rfl ?_;refine z2 ?_;refine a9 rfl rfl rfl hw rfl fun w b5 hw => ?_;refine z3 ?_;refine bd [0, 1, 2, 3, 4, 5, 6, 7, 8, 9, 10, 11] bJ kR ?_;replace hw := hw.drawn (w.drawn + 1);refine lA (l := p.cells) ae hw ?_;refine z3 ?_;refine cS rfl dv rfl ?_;refine lD (v := x.kv) au hw ?_;refine al rfl oO rfl (qe (p := p) hw (aS gG pK) (hx.k.of sF)) kR fun w ED hv => ?_;obtain ⟨rfl, hw⟩ := hv;obtain ⟨at_, Ay⟩ : ∃ a, a = (dD x.it.key p.pg.items 0).1 := ⟨_, rfl⟩;rw [<-Ay];have Nv : Ly x.it V T n p.pg = if p.pg.items.length <= at_ then (V, T, 5) else if (V.write n { p.pg with items := p.pg.items.take at_ ++ [x.it] ++ p.pg.items.drop (at_ + 1) }).1 ≠ 0 then ((V.write n { p.pg with items := p.pg.items.take at_ ++ [x.it] ++ p.pg.items.drop (at_ + 1) }).2, T, (V.write n { p.pg with items := p.pg.items.take at_ ++ [x.it] ++ p.pg.items.drop (at_ + 1) }).1) else
   ((EU (V.write n { p.pg with items := p.pg.items.take at_ ++ [x.it] ++ p.pg.items.drop (at_ + 1) }).2 (p.pg.items.getD at_ Me)).2, T, (EU (V.write n { p.pg with items := p.pg.items.take at_ ++ [x.it] ++ p.pg.items.drop (at_ + 1) }).2 (p.pg.items.getD at_ Me)).1) := by
  unfold Ly; rw [<-Ay]
 refine Ht ?_;refine bt rfl rfl (ar.bL (v := .slice ia p.l.length ic) az hw pK (by rw [<-hs]; rfl)) ?_;refine z3 ?_;refine aE rfl (fun h1 => ?_) fun h1 => ?_
 ·
  rw [ao oM] at Nv;refine z5 ?_;exact aK rfl rfl rfl (by
 rw [Nv];exact ⟨rfl, (hw.b [ah b5 _ _, cB p]).tail.tail⟩)
 rw [aj oM] at Nv;obtain ⟨y, hy⟩ : ∃ y, p.l[at_]? = some y := ⟨_, dm oM⟩;have hyi : p.pg.items.getD at_ Me = y.it := by
  rw [lP, show p.pg.items[at_]? = some y.it by show (p.l.map bO.it)[at_]? = _; rw [dg, hy]; rfl]; rfl
 rw [hyi] at Nv;obtain ⟨ib, ic2, Ei⟩ := TH hw (p := p) pK oM;rw [hs] at Ei
 cases Ei;have KX : ∀ {w : World} {L : List aw}, an G (cB p :: L) w -> iR y.cells := fun hw => ln ((aS gG (L := cB p :: _) .here).its.it y (gl hy)) hw
 refine z4 ?_;refine bt rfl rfl (ar.bL (v := .slice (some ⟨ib, 0, none⟩) p.l.length ic) az hw pK (by rw [<-hs]; rfl)) ?_;refine z1 ?_;refine eY rfl aJ bf rfl rfl ⟨oM, oM⟩ ?_;refine bt rfl rfl (ar.many (cs := y.cells) aD rfl (by
 have h2 := (aS gG (L := cB p :: _) .here).its.sl.at (hw.b [cB p]);rw [hs] at h2
 rw [ez];exact h2.at (show (p.l.map bO.cells)[at_]? = some y.cells by rw [dg, hy]; rfl))) ?_
 refine aF rfl eM hw rfl fun w b9 hw => ?_;refine aT (cs := y.cells) (l' := y.cells) rfl tV rfl rfl aD rfl (KX (hw.b [cB p])) hw pK (by simp [bO.cells]) rfl rfl fun w hw => ?_;refine z2 ?_;refine bd [0, 1, 2, 3, 4, 5, 6, 7, 8, 9, 10] bJ kR ?_;replace hw := hw.drawn (w.drawn + 1);refine lA (l := p.cells) ae hw ?_;refine z4 ?_;refine bt rfl rfl (ar.tL (cs := x.cells) aD hw pK (by rfl) rfl) ?_;refine al rfl Cx rfl (DQ (p := p) (x := x) (at_ := at_) hw (aS gG pK) (BM (hw.pick (A := cB p) pK)) (hx.of sF) oM) kR fun w v38 hv => ?_;obtain ⟨-, p2, rfl, Ns, Dx, hw⟩ := hv.resolve_left (fun h => h.1 oM);have WS := dX (aS Dx pK) hw;refine z3 ?_;refine aT (cs := p2.cells) (l' := p2.cells) rfl tV rfl rfl ae rfl WS hw pK (by simp [bT.cells]) rfl kR fun w hw => ?_;refine z3 ?_;refine bd [0, 1, 2, 3, 4, 5, 6, 7] bJ kR ?_;replace hw := hw.drawn (w.drawn + 1);refine z3 ?_;refine lD (v := pQ vq) aA hw ?_;refine z1 ?_;refine lA (l := p2.cells) ae hw ?_;refine al rfl gD rfl (gW (p := p2) (n := n) (hw.b [cj vq V]) (aS Dx pK) aW oM) kR fun w v47 hv => ?_;rw [Ns] at hv;obtain ⟨rfl, hw⟩ := hv;have Vk := Lt.write aW n { p.pg with items := p.pg.items.take at_ ++ [x.it] ++ p.pg.items.drop (at_ + 1) };obtain ⟨z, hz'⟩ : ∃ z, z = V.write n { p.pg with items := p.pg.items.take at_ ++ [x.it] ++ p.pg.items.drop (at_ + 1) } := ⟨_, rfl⟩;rw [<-hz'] at hw Vk Nv
 rw [<-hz'];have hwo := Vk.ok;have Jc := Vk.sz;refine z7 ?_;refine aE rfl (fun h2 => ?_) fun h2 => ?_
 ·
  rw [ao h2] at Nv;refine z6 ?_;exact aK rfl rfl rfl (by
 rw [Nv];exact ⟨rfl, (hw.b [cB p2, ah b9 _ _, ah b5 _ _, cB p]).tail.tail.tail.tail.b [cj vq _, ah xq _ _]⟩)
 rw [aj h2] at Nv;refine z2 ?_;refine bd [0, 1, 2, 3, 4, 5, 6] bJ kR ?_;replace hw := hw.drawn (w.drawn + 1);refine z3 ?_;refine lD (v := pQ vq) aA hw ?_;refine lA (l := y.cells) aD hw ?_;refine al rfl Cy rfl (DR (x := y) (hw.b [cj vq _]) hwo oM) kR fun w v56 hv => ?_;obtain ⟨rfl, hw⟩ := hv;refine z3 ?_;exact aK rfl rfl rfl (by
 rw [Nv];exact ⟨rfl, (hw.b [cB p2, ah b9 _ _, ah b5 _ _, cB p]).tail.tail.tail.tail.b [cj vq _, ah xq _ _]⟩)
theorem abF {vq xq : Nat} {V : Va} {T : Tr} {x : bO} {was b : Bool} {n : Int} {p : bT} (hw : an G (cj vq V :: ah xq (yQ vq T x was) 200 :: cB p :: L) w) (aW : V.Ok) (ed : V.sz <= 999999999900) (hx : x.Ok L) (gG : p.Sm) (hT : 0 <= T.items /\ T.items <= 1000000000000) (qE : V.rd n = some p.pg) :
  Calls prog (lfF b) #[pQ xq, iQ n, gQ p.cells] w (bU fun r w' => r = iQ (Vi b x.it V T n p.pg).2.2 /\ an G (cj vq (Vi b x.it V T n p.pg).1 :: ah xq (yQ vq (Vi b x.it V T n p.pg).2.1 x was) 200 :: L) w') := by
 cases b
 ·exact AU hw aW ed hx gG hT
 exact uC hw aW ed hx gG hT qE
theorem Xq (b : Bool) : ai prog (lfF b) := by
 cases b
 ·exact zA
 exact tK
theorem Db {vq f : Nat} {V : Va} {T : Tr} {kv vv : Value} {key value : bW} {res : Tr × Bool × Int × Va} (hw : an G (cj vq V :: L) w) (aW : V.Ok) (ed : V.sz + 20 * f <= 999999999000) (kk : aG L (dP kv key)) (kl : aG L (dP vv value)) (hh : 0 <= T.aQ /\ T.aQ <= 1000000) (hT : 0 <= T.items /\ T.items <= 1000000000000) (gn : J0 f V T key value = some res) :
  Calls prog 35 #[pQ vq, gQ (br T), kv, vv] w (bU fun r w' => r = .tuple #[gQ (br res.1), .bool res.2.1, iQ res.2.2.1] /\ an G (cj vq res.2.2.2 :: L) w') := by
 obtain ⟨ka, kc, rfl⟩ := (kk.at hw.tail).form;obtain ⟨la, lc, rfl⟩ := (kl.at hw.tail).form;have hvf := aW.vf;have Sz := aW.pf;refine ad (args := [_, _, _, _]) func35 rfl ntmps35 rfl rfl ?_;refine z2 ?_;refine a9 rfl rfl rfl hw rfl fun w b4 hw => ?_;refine a9 rfl rfl rfl hw rfl fun w b5 hw => ?_;refine aF rfl yK hw rfl fun w b8 hw => ?_;refine aF rfl SK hw rfl fun w b9 hw => ?_;refine aF rfl nC hw rfl fun w rF hw => ?_;refine z9 ?_;refine cu (l1 := [4, 5, 6, 7]) (l2 := [8]) rfl (d := 22) (¬ (1 <= key.length /\ key.length <= 24)) rfl ?_ ?_
 ·
  refine ay (d := 18) rfl (fun h1 => ?_) fun h1 => ?_
  ·
   refine z5 ?_;refine cQ ?_
   first | (symm; rw [decide_eq_true_eq]; omega) | (refine cd.2 ?_; omega)
  refine z5 ?_;refine cQ ?_
  first | (symm; rw [decide_eq_true_eq]; omega) | (refine cd.2 ?_; omega)
 refine z2 ?_;refine aE rfl (fun h2 => ?_) fun h2 => ?_
 ·
  have e : some res = some (tQ, false, 7, V) := by rw [<-gn]; unfold J0; rw [ao h2]
  cases e;refine z2 ?_;refine aO (v := .agg #[iQ 0, iQ 0, iQ 0]) rfl rfl (fun w => kR) ?_;refine aT (cs := br tQ) (l' := br tQ) rfl tV rfl rfl aX rfl (by intro u hu; simp [br] at hu; rcases hu with rfl | rfl | rfl <;> rfl) hw pK (by simp [br]) rfl rfl (fun w hw => ?_);refine bu (l' := [.bool false]) rfl tV rfl rfl bM rfl hw pK rfl rfl rfl fun w hw => ?_;refine bu (l' := [iQ 7]) rfl tV rfl rfl aB rfl hw pK rfl rfl rfl fun w hw => ?_;refine z2 ?_;refine m9 rfl rfl ⟨_, rfl, (ar.cU (l := br tQ) aX hw pK rfl)⟩ ⟨_, rfl, (ar.bL (v := .bool false) bM hw pK rfl)⟩ ⟨_, rfl, (ar.bL (v := iQ 7) aB hw pK rfl)⟩ ⟨rfl, ?_⟩;exact (hw.b [ah rF _ _, ah b9 _ _, ah b8 _ _, ah b5 _ _, ah b4 _ _]).tail.tail.tail.tail.tail
 have Z5 := c6.1 h2;refine z7 ?_;refine aE rfl (fun h3 => ?_) fun h3 => ?_
 ·
  have e : some res = some (tQ, false, 8, V) := by rw [<-gn]; unfold J0; rw [aj h2, ao oM]
  cases e;refine z2 ?_;refine aO (v := .agg #[iQ 0, iQ 0, iQ 0]) rfl rfl (fun w => kR) ?_;refine aT (cs := br tQ) (l' := br tQ) rfl tV rfl rfl aX rfl (by intro u hu; simp [br] at hu; rcases hu with rfl | rfl | rfl <;> rfl) hw pK (by simp [br]) rfl rfl (fun w hw => ?_);refine bu (l' := [.bool false]) rfl tV rfl rfl bM rfl hw pK rfl rfl rfl fun w hw => ?_;refine bu (l' := [iQ 8]) rfl tV rfl rfl aB rfl hw pK rfl rfl rfl fun w hw => ?_;refine z2 ?_;refine m9 rfl rfl ⟨_, rfl, (ar.cU (l := br tQ) aX hw pK rfl)⟩ ⟨_, rfl, (ar.bL (v := .bool false) bM hw pK rfl)⟩ ⟨_, rfl, (ar.bL (v := iQ 8) aB hw pK rfl)⟩ ⟨rfl, ?_⟩;exact (hw.b [ah rF _ _, ah b9 _ _, ah b8 _ _, ah b5 _ _, ah b4 _ _]).tail.tail.tail.tail.tail
 have ace : value.length <= 3840 := oM;refine z3 ?_;refine lD (v := pQ vq) aA hw ?_;refine lA (l := br T) aX hw ?_;refine z1 ?_;refine al rfl KE rfl (MK (t := T) (key := key) (hw.b [cj vq V]) aW (kk.of sF) oM) rfl fun w v33 hv => ?_;obtain ⟨gv, rfl, hw⟩ := hv;obtain ⟨g, hg⟩ : ∃ g, g = ur V.rd T key := ⟨_, rfl⟩
 (try unfold sQ at hw); rw [<-hg] at hw
 rw [<-hg];refine z4 ?_;refine bu (l' := [.bool g.2.1]) rfl tV rfl rfl bM rfl hw pK rfl rfl rfl fun w hw => ?_;refine bu (l' := [iQ g.2.2]) rfl tV rfl rfl aB rfl hw pK rfl rfl rfl fun w hw => ?_;refine z4 ?_;refine lD (v := iQ g.2.2) aB hw ?_;refine z2 ?_;refine aE rfl (fun h4 => ?_) fun h4 => ?_
 ·
  have e : some res = some (tQ, false, g.2.2, V) := by rw [<-gn, hg]; unfold J0; rw [aj h2, aj oM, ao (by rw [<-hg]; exact h4)]
  cases e;refine ju ?_;refine bd [0, 1, 2, 3, 4] bJ kR ?_;replace hw := hw.drawn (w.drawn + 1);refine aO (v := .agg #[iQ 0, iQ 0, iQ 0]) rfl rfl (fun w => kR) ?_;refine lD (v := iQ g.2.2) aB hw ?_;refine yM (cs := br tQ) (l' := br tQ) rfl tV rfl rfl aX rfl (by intro u hu; simp [br] at hu; rcases hu with rfl | rfl | rfl <;> rfl) hw pK (by simp [br]) rfl (fun w hw q' hq => ?_) (fun w hw => ?_)
  ·
   have hq := bm (l := [1]) kR hq;simp only [bQ, dz, or_false] at hq;subst hq;exact bx rfl rfl rfl (ar.bL (v := iQ g.2.2) aB hw pK rfl)
  refine sN (l' := [.bool false]) rfl tV rfl rfl bM rfl hw pK rfl rfl (fun w hw q' hq => ?_) fun w hw => ?_
  ·
   have hq := bm (l := [1]) kR hq;simp only [bQ, dz, or_false] at hq;subst hq;exact bx rfl rfl rfl (ar.bL (v := iQ g.2.2) aB hw pK rfl)
  refine bu (l' := [iQ g.2.2]) rfl tV rfl rfl aB rfl hw pK rfl rfl kR fun w hw => ?_;refine z2 ?_;refine m9 rfl rfl ⟨_, rfl, (ar.cU (l := br tQ) aX hw pK rfl)⟩ ⟨_, rfl, (ar.bL (v := .bool false) bM hw pK rfl)⟩ ⟨_, rfl, (ar.bL (v := iQ g.2.2) aB hw pK rfl)⟩ ⟨rfl, ?_⟩;exact (hw.b [ah rF _ _, ah b9 _ _, ah b8 _ _, ah b5 _ _, ah b4 _ _, row 5 1 gv _ _]).tail.tail.tail.tail.tail.tail
 have hg0 : g.2.2 = 0 := c6.1 h4;rw [hg0] at hw;refine z3 ?_;refine lD (v := pQ vq) aA hw ?_;refine al rfl gX rfl (hG (hw.b [cj vq V]) ⟨hvf, by unfold Va.sz at ed; omega⟩) rfl (fun w Hu hv => ?_);obtain ⟨rfl, hw⟩ := hv;refine aF rfl Es hw rfl fun w mB hw => ?_;refine bu (l' := [iQ V.mark]) rfl tV rfl rfl ag rfl hw pK rfl rfl rfl fun w hw => ?_;refine z2 ?_;refine sR (fs := 0) (fn := .func 88) (first := #[]) (captured := #[pQ rF, pQ b4, pQ mB, pQ b8, pQ b9]) (hm := rfl) rfl ?_;refine gP (v1 := #[]) (v2 := #[pQ rF, pQ b4, pQ mB, pQ b8, pQ b9]) rfl (by intro z hz; simp at hz; rcases hz with rfl | rfl | rfl | rfl | rfl <;> exact ⟨_, rfl⟩) sM (by simp only [jM, cH, gE]; rfl) ?_;refine aC ?_;refine ⟨rfl, ?_⟩;refine z2 ?_;refine lD (v := pQ vq) aA hw ?_;refine lA (l := br T) aX hw ?_;refine lD (v := .bool g.2.1) bM hw ?_;refine aO (v := gQ (yQ vq T ⟨Me, nQ, nQ⟩ g.2.1)) rfl rfl (fun w => kR) ?_;refine a9 rfl rfl rfl hw rfl fun w SD hw => ?_;refine z5 ?_;refine lD (v := pQ vq) aA hw ?_;refine z2 ?_;refine al rfl GN rfl (H7 (key := key) (value := value) (hw.b [cj vq V]) aW oM (kk.of sF) (kl.of sF) (by unfold bP; omega) (by unfold bP; omega)) rfl (fun w v54 hv => ?_);obtain ⟨x', rfl, Vj, hw⟩ := hv;have iv := Ln aW key value;have hss := iv.sz;have BZ := iv.ok;have ZX := Tg (V := V) (value := value) Z5.2;have RQ := Q4 (V := V) (key := key) (value := value);obtain ⟨st, jB⟩ : ∃ st, st = dH V key value := ⟨_, rfl⟩;rw [<-jB] at hw Vj hss BZ ZX RQ iv
 rw [<-jB];have Jb : iR x'.cells := by
  have h0 := hw.b [aV (bw x')];have h1 := h0.cF;obtain ⟨a1, c1, h2⟩ := aP h1;obtain ⟨a2, c2, h3⟩ := aP h1.tail;intro u hu;simp [bO.cells, h2, h3] at hu;rcases hu with rfl | rfl | rfl | rfl <;> rfl
 refine z5 ?_;refine aT (cs := x'.cells) (l' := yQ vq T x' g.2.1) rfl tV rfl rfl aD rfl Jb hw pK (by simp [yQ, bO.cells]) rfl rfl fun w hw => ?_;refine bu (l' := [iQ st.1]) rfl tV rfl rfl aB rfl hw pK rfl rfl rfl fun w hw => ?_;refine z4 ?_;refine lD (v := iQ st.1) aB hw ?_;refine z2 ?_;refine aE rfl (fun h5 => ?_) fun h5 => ?_
 ·
  have e : some res = some (tQ, false, st.1, V) := by rw [<-gn, jB]; unfold J0; rw [aj h2, aj oM, aj (by rw [<-hg]; exact h4), ao (by rw [<-jB]; exact h5)]
  cases e;rw [RQ h5] at hw;refine ju ?_;refine bd [0, 1, 2, 3, 4, 5] bJ kR ?_;replace hw := hw.drawn (w.drawn + 1);refine lA (l := [iQ 0, iQ 0, iQ 0]) aX hw ?_;refine lD (v := .bool g.2.1) bM hw ?_;refine lD (v := iQ st.1) aB hw ?_;refine yM (cs := br tQ) (l' := br tQ) rfl tV rfl rfl aX rfl (by intro u hu; simp [br] at hu; rcases hu with rfl | rfl | rfl <;> rfl) hw pK (by simp [br]) rfl (fun w hw q' hq => ?_) (fun w hw => ?_)
  ·
   have hq := bm (l := [2, 1]) kR hq;simp only [bQ, dz, or_false] at hq;rcases hq with rfl | rfl
   ·exact bx rfl rfl rfl (ar.bL (v := iQ st.1) aB hw pK rfl)
   exact bx rfl rfl rfl (ar.bL (v := .bool g.2.1) bM hw pK rfl)
  refine sN (l' := [.bool g.2.1]) rfl tV rfl rfl bM rfl hw pK rfl rfl (fun w hw q' hq => ?_) fun w hw => ?_
  ·
   have hq := bm (l := [2]) kR hq;simp only [bQ, dz, or_false] at hq;subst hq;exact bx rfl rfl rfl (ar.bL (v := iQ st.1) aB hw pK rfl)
  refine bu (l' := [iQ st.1]) rfl tV rfl rfl aB rfl hw pK rfl rfl kR fun w hw => ?_;refine z2 ?_;have hz := hw.b [cj vq V, ah rF _ _, ah b4 _ _, ah mB _ _, ah b8 _ _, ah b9 _ _];refine bB rfl ?_;refine iH yC (AV hz aW oM ⟨by unfold Va.mark; omega, oM⟩) (fun v w hv => ?_);obtain ⟨-, hw⟩ := hv.resolve_right (fun h => h5 h.1);rw [show (V.mark - V.mark).toNat = 0 by omega, show V.popN 0 = V from rfl] at hw;refine J6 rfl ⟨_, rfl, (ar.cU (l := br tQ) aX hw pK rfl)⟩ ⟨_, rfl, (ar.bL (v := .bool false) bM hw pK rfl)⟩ ⟨_, rfl, (ar.bL (v := iQ st.1) aB hw pK rfl)⟩ ⟨rfl, ?_⟩;exact (hw.b [ah rF _ _, ah b4 _ _, ah mB _ _, ah b8 _ _, ah b9 _ _, aV (bw x'), ah SD _ _, row 5 1 gv _ _, ah b5 _ _]).tail.tail.tail.tail.tail.tail.tail.tail.tail
 have h5 : st.1 = 0 := c6.1 h5;rw [h5] at hw;have e : J0 f V T key value = match Dq st.2.1 (Vi g.2.1 st.2.1) f st.2.2 T with
   | none => none
   | some r => some (if r.2.2 ≠ 0 then (tQ, false, r.2.2, V) else (r.2.1, g.2.1, 0, r.1)) := by
  unfold J0; rw [aj h2, aj oM, aj (by rw [<-hg]; exact h4), aj (by rw [<-jB]; omega), <-jB, <-hg]
 rw [e] at gn;obtain ⟨r, hr⟩ : ∃ r, Dq st.2.1 (Vi g.2.1 st.2.1) f st.2.2 T = some r := by
  cases h : Dq st.2.1 (Vi g.2.1 st.2.1) f st.2.2 T with
  | none => rw [h] at gn; cases gn
  | some r => exact ⟨r, rfl⟩
 rw [hr] at gn;have gn := Option.some.inj gn;rw [<-Vj] at hr
 have kO := iv.trans (TA (Zy _ _) BZ hr);have hpu := kO.JO;have gG := kO.sz;have xe := kO.ok;have me : ∀ R, x'.Ok (row 5 1 x'.kv x'.it.key.length (cD x'.it.key) :: row 5 1 x'.vv x'.it.value.length (cD x'.it.value) :: R) := fun R =>
  ⟨ve rfl .here, ve rfl (.there .here), by rw [Vj]; exact ZX.1, by rw [Vj]; exact ZX.2⟩
 have hz := (hw.b [aV (bw x')]).cF;simp only [bw, iC, ie] at hz;clear hw;have hw := hz;clear hz;refine z4 ?_;refine gP (v1 := #[pQ SD]) (v2 := #[]) rfl (by intro z hz; simp at hz; subst hz; exact ⟨_, rfl⟩) (by simp only [jM, cH, gE]; rfl) sM ?_;refine z2 ?_;refine pS (fun e w => e = [(1000000000, .func (.func 88) #[] #[pQ rF, pQ b4, pQ mB, pQ b8, pQ b9]), (8, pQ b8), (9, pQ b9), (10, pQ rF), (12, pQ SD), (13, .func (.func (lfF g.2.1)) #[pQ SD] #[])] /\ an G (row 5 1 x'.kv x'.it.key.length (cD x'.it.key) :: row 5 1 x'.vv x'.it.value.length (cD x'.it.value) :: cj vq st.2.2 :: ah SD (yQ vq T x' g.2.1) 200 :: ah rF [iQ 0] 41 :: ah b4 [pQ vq] 28 :: ah mB [iQ V.mark] 3 :: ah b8 (br tQ) 62 :: ah b9 [.bool g.2.1] 4 :: row 5 1 gv g.1.length (cD g.1) :: ah b5 (br T) 62 :: L) w) ?_ ?_
 ·
  refine z2 ?_;refine lD (v := .bool g.2.1) bM hw ?_;refine aC ?_;refine di rfl (fun h6 => ?_) fun h6 => ?_
  ·
   refine z2 ?_;refine gP (v1 := #[pQ SD]) (v2 := #[]) rfl (by intro z hz; simp at hz; subst hz; exact ⟨_, rfl⟩) (by simp only [jM, cH, gE]; rfl) sM ?_;refine z2 ?_;have OA : lfF g.2.1 = 92 := by rw [h6]; rfl
   have hz := hw.b [row 5 1 x'.kv _ _, row 5 1 x'.vv _ _, cj vq _, ah SD _ _, ah rF _ _, ah b4 _ _, ah mB _ _, ah b8 _ _, ah b9 _ _, row 5 1 gv _ _, ah b5 _ _];rw [OA];exact ⟨[(1000000000, _), (8, _), (9, _), (10, _), (12, _), (13, _)], sB, rfl, hz⟩
  refine dS ?_;have OA : lfF g.2.1 = 91 := by rw [h6]; rfl
  have hz := hw.b [row 5 1 x'.kv _ _, row 5 1 x'.vv _ _, cj vq _, ah SD _ _, ah rF _ _, ah b4 _ _, ah mB _ _, ah b8 _ _, ah b9 _ _, row 5 1 gv _ _, ah b5 _ _];rw [OA];exact ⟨[(1000000000, _), (8, _), (9, _), (10, _), (12, _), (13, _)], sB, rfl, hz⟩
 clear hw;rintro e w ⟨rfl, hw⟩;refine z4 ?_;refine al rfl zz rfl (AT (f := f) (lf := lfF g.2.1) (leaf := Vi g.2.1 x'.it) (res := r) (x := x') (T := T) (was := g.2.1) (hw.b [cj vq st.2.2, ah SD _ _, row 5 1 x'.kv _ _, row 5 1 x'.vv _ _]) BZ oM (me _) hh hT (Xq _) (fun hw aW ed hx gG hT qE => abF hw aW ed hx gG hT qE) hr) rfl fun w v71 hv => ?_;obtain ⟨rfl, hw⟩ := hv;refine bu (l' := [iQ r.2.2]) rfl tV rfl rfl aB rfl hw pK rfl rfl rfl fun w hw => ?_;refine z2 ?_;refine bd [0, 1, 2, 3, 4, 5, 6, 7, 8] bJ kR ?_;replace hw := hw.drawn (w.drawn + 1);refine z3 ?_;refine bt rfl rfl (ar.tL (cs := br r.2.1) aX hw pK (by rfl) rfl) ?_;refine lD (v := .bool g.2.1) bM hw ?_;refine lD (v := iQ r.2.2) aB hw ?_;refine yM (cs := br r.2.1) (l' := br r.2.1) rfl tV rfl rfl aX rfl (by intro u hu; simp [br] at hu; rcases hu with rfl | rfl | rfl <;> rfl) hw pK (by simp [br]) rfl (fun w hw q' hq => ?_) (fun w hw => ?_)
 ·
  have hq := bm (l := [5, 4]) kR hq;simp only [bQ, dz, or_false] at hq;rcases hq with rfl | rfl
  ·exact bx rfl rfl rfl (ar.bL (v := iQ r.2.2) aB hw pK rfl)
  exact bx rfl rfl rfl (ar.bL (v := .bool g.2.1) bM hw pK rfl)
 refine sN (l' := [.bool g.2.1]) rfl tV rfl rfl bM rfl hw pK rfl rfl (fun w hw q' hq => ?_) fun w hw => ?_
 ·
  have hq := bm (l := [5]) kR hq;simp only [bQ, dz, or_false] at hq;subst hq;exact bx rfl rfl rfl (ar.bL (v := iQ r.2.2) aB hw pK rfl)
 refine bu (l' := [iQ r.2.2]) rfl tV rfl rfl aB rfl hw pK rfl rfl kR fun w hw => ?_;refine z2 ?_;have hz := hw.b [cj vq r.1, ah rF _ _, ah b4 _ _, ah mB _ _, ah b8 _ _, ah b9 _ _];refine bB rfl ?_;refine iH yC (AV hz xe oM ⟨hpu.2.1, hpu.2.2⟩) fun v w hv => ?_
 by_cases h7 : r.2.2 = 0
 ·rw [aj (not_not_intro h7)] at gn;subst gn;obtain ⟨-, hw⟩ := hv.resolve_left (fun h => h.1 h7);rw [h7] at hw
  refine J6 rfl ⟨_, rfl, (ar.cU (l := br r.2.1) aX hw pK rfl)⟩ ⟨_, rfl, (ar.bL (v := .bool g.2.1) bM hw pK rfl)⟩ ⟨_, rfl, (ar.bL (v := iQ 0) aB hw pK rfl)⟩ ⟨rfl, ?_⟩;exact (hw.b [ah rF _ _, ah b4 _ _, ah mB _ _, ah b8 _ _, ah b9 _ _, ah SD _ _, row 5 1 x'.kv _ _, row 5 1 x'.vv _ _, row 5 1 gv _ _, ah b5 _ _]).tail.tail.tail.tail.tail.tail.tail.tail.tail.tail
 rw [ao h7] at gn;subst gn;obtain ⟨-, hw⟩ := hv.resolve_right (fun h => h7 h.1);rw [hpu.1] at hw
 refine J6 rfl ⟨_, rfl, (ar.cU (l := br tQ) aX hw pK rfl)⟩ ⟨_, rfl, (ar.bL (v := .bool false) bM hw pK rfl)⟩ ⟨_, rfl, (ar.bL (v := iQ r.2.2) aB hw pK rfl)⟩ ⟨rfl, ?_⟩;exact (hw.b [ah rF _ _, ah b4 _ _, ah mB _ _, ah b8 _ _, ah b9 _ _, ah SD _ _, row 5 1 x'.kv _ _, row 5 1 x'.vv _ _, row 5 1 gv _ _, ah b5 _ _]).tail.tail.tail.tail.tail.tail.tail.tail.tail.tail
end
def O1 (b : Nat) (l : List Value) (T : TypeId) : aw := pt b (.cells l.toArray T (l.length, l.length + 1))
section
variable {P : Program} {n : Nat} {ops : Array Oper} {dr : Bool} {done r : List Nat} {K : fm -> World -> Prop} {e : fm} {w : World} {i d s : Nat} {t : TypeId} {p : String} {af : Array Edge} {g : Option (Nat × Bool)}
variable {G : Gh} {L R : List aw}
theorem OM {w : World} {b : Nat} {c : Array Value} {T : TypeId} (h : w.heap[b]? = some (.cells c T (0, 0))) : w.freeze ⟨b, c.size, none⟩ 1 = { w with heap := w.heap.setIfInBounds b (.cells c T (c.size, c.size + 1)) } := by
 obtain ⟨hb, h2⟩ := sY.1 h;unfold World.freeze;rw [aj dM]
 congr 1
 apply Array.ext
 ·simp
 intro k h3 h4;simp only [Array.getElem_modify, Array.getElem_setIfInBounds]
 by_cases hk : b = k
 ·subst hk;rw [ao rfl, Array.getElem_setIfInBounds_self, h2];rfl
 rw [aj hk, Wg _ hk]
theorem Ea {c : TypeId} {x : Operand} {b m cap : Nat} {l : List Value} {T : TypeId} (ho : ops[i]? = some ⟨some d, .convert s s x, t, p, af, g⟩) (hs : P.underlying s = some (.slice c)) (hc : P.underlying c = some (.int .u8))
  (hx : ev e x = some (sQ b m cap)) (hw : an G L w) (hp : cG (ah b l T) L R) (i' : gU P ops dr done i = [])
  (h : ∀ w', an G (O1 b l T :: R) w' -> XL P n ops dr (i :: done) r K ((d, sQ b m cap) :: e) w') (hd : Nat.blt d n = true := by exact rfl) (hg : Gd ops e g := by first | trivial | exact ⟨_, rfl, rfl⟩) : XL P n ops dr done (i :: r) K e w := by
 have hb := (hw.pick hp).cW;have Uo : w.shape? b = some (T, l.length) := by unfold World.shape?; rw [hb]; simp
 have hfz := OM hb;have Ow := (hw.pick hp).set (.cells l.toArray T (l.length, l.length + 1));refine fU ho (by simpa [cy] using hd) hg (ρ := rh e) (by intro z hZ; simp [Op.operands] at hZ; exact BP hx hZ) (by simp [dk, hs]) (v := sQ b m cap) (w' := { w with heap := w.heap.setIfInBounds b (.cells l.toArray T (l.length, l.length + 1)) }) ?_ (fb i') (h _ Ow);simp only [List.size_toArray] at hfz;simp [execOp, bj hx, convert, run_underlying hs, run_underlying hc, markStringish, Uo, hfz]
end
theorem GS {b : Nat} {l : bW} {T : TypeId} {R : List aw} : aG (O1 b (cD l) T :: R) (dP (sQ b l.length l.length) l) := fun g w hw => by
 have hb := hw.cW;refine .inr ⟨b, 0, l.length, rfl, g8 _, fun j u hu => ?_⟩;rw [fX, cell_of_row w b _ _ _ _ hb]
 simpa using hu
theorem U1 {b : Nat} {l : List Value} {T : TypeId} {R : List aw} : aG (O1 b l T :: R) (qx (sQ b l.length l.length) l) := fun g w hw => by
 have hb := hw.cW;refine .inr ⟨b, 0, l.length, rfl, g8 _, fun j u hu => ?_⟩;rw [fX, cell_of_row w b _ _ _ _ hb]
 simpa using hu
theorem LM {f : Nat} {V : Va} {T : Tr} {key value : bW} (Ml : (ur V.rd T key).2.1 = false) : J0 f V T key value = LN f V T key value := by
 unfold J0 LN;rw [Ml];rfl
theorem Xd {j : Nat} (hj : j < 8) : (cD [97, 98, 99, 100, 109, 110, 111, 112])[j]? = some (bv (HP.getD j 0)) := by
 rcases j with _ | _ | _ | _ | _ | _ | _ | _ | j <;> first | rfl | omega
theorem Q6 {b T : Nat} {t : Tr} {R : List aw} : aG (row T 4 (sQ b 1 1) 1 (eK (1, t)) :: R) (g7 4 (sQ b 1 1) ([(1, t)].map eK)) := by
 have h := (g7.row (T := T) (z := 4) (m := 1) (v := sQ b 1 1) (rs := [(1, t)].map eK) rfl (fun r hr => by simp at hr; subst hr; rfl)).head R
 simpa using h
theorem Wq {L : List aw} : aG L (g7 4 (nQ) (([] : List (Int × Tr)).map eK)) := fun g w hw => .inl ⟨none, rfl, by simp, rfl⟩
theorem BI {r : Rp} (h : r.bad = []) (L : List aw) : (⟨r, nQ⟩ : qu).Ok L := ⟨fun g w hw => by rw [h]; exact .inl ⟨⟨none, rfl⟩, rfl⟩, by rw [h]; simp⟩
section
variable {G : Gh} {L R : List aw} {w : World}
theorem Gk (hw : an G L w) (RI : aG L EvK) : Calls prog 7 #[] w (bU fun r w' => r = .bool true /\ an G L w') := by
 refine ad (args := []) func7 rfl ntmps7 rfl rfl ?_;refine z6 ?_;refine al rfl Ib rfl (Kq hw) rfl fun w v12 hv => ?_;obtain ⟨-, vq, om, q, cv, lv, fq, fv, rfl, hw⟩ := hv.resolve_left (fun h => h.1 dM);have hw : an G (oy [] :: _) w := an.bz (M := []) hw;have hw := hw.b [ah vq _ _, bH om _];have hw : an G (cj vq UP :: L) w := I4 (on := []) dM (fun x hx => by cases hx) hw;have acw : UP.Ok := m6 ⟨by decide, by decide, fun i x hx h0 => by have hm := gl hx; rw [List.eq_of_mem_replicate hm] at h0; omega⟩;refine yb ?_;refine ay (d := 17) rfl (fun h1 => ?_) fun h1 => ?_
 ·
  exact absurd rfl h1
 refine z1 ?_;refine wW rfl kR jh rfl ?_;refine z2 ?_;refine di rfl (fun h2 => ?_) fun h2 => ?_
 ·
  cases h2
 refine z3 ?_;refine aO (v := gQ (br tQ)) rfl rfl (fun w => kR) ?_;refine aF rfl yK hw rfl fun w b3 hw => ?_;refine aT (cs := br tQ) (l' := br tQ) rfl tV rfl rfl aX rfl (by intro u hu; simp [br] at hu; rcases hu with rfl | rfl | rfl <;> rfl) hw pK (by simp [br]) rfl rfl (fun w hw => ?_);refine z4 ?_;refine Is (cs := cD [97, 98, 99, 100, 109, 110, 111, 112]) rfl aI bh pj dM rfl kR hw rfl fun w b22 hw => ?_;refine Ea rfl aI iN rfl hw pK rfl fun w hw => ?_;refine z4 ?_;have hw := hw.b [ah b3 _ _, O1 b22 _ _, cj vq UP];refine bF (fun m e w => ∃ (j : Nat) (T : Tr) (V : Va), j <= 8 /\ m = 8 - j /\ e = [(1, pQ vq), (3, pQ b3), (23, sQ b22 8 8), (24, iQ 8), (25, iQ j)] /\ (MB j = some (T, V) /\ V.Ok) /\ an G (ah b3 (br T) 62 :: O1 b22 (cD [97, 98, 99, 100, 109, 110, 111, 112]) 5 :: cj vq V :: L) w)
  (m := 8) sB
  ⟨0, tQ, UP, dy _, rfl, rfl, ⟨rfl, acw⟩, hw⟩ ?_
 rintro m e w ⟨j, T, V, hj, rfl, rfl, ⟨hfx, aW⟩, hw⟩;obtain ⟨T', V', hgp, xe, Kf, ed, hh, hT⟩ := UO oM hfx;have Mk := Wj aW xe;refine z5 ?_;refine aE rfl (fun h3 => ?_) fun h3 => ?_
 ·
  have hj8 : j < 8 := oM;refine z5 ?_;refine cR rfl aI bh rfl rfl ⟨oM, oM⟩ ?_;refine bt rfl rfl (ar.one (v := bv (HP.getD j 0)) eC (by
 have h := ((U1 (b := b22) (l := cD [97, 98, 99, 100, 109, 110, 111, 112])).of sF).at hw;exact qx.at h (i := j) (by rw [ez]; exact Xd hj8))) ?_
  refine z5 ?_;refine lA (l := br T) aX hw ?_;refine z1 ?_;refine fG (cs := cD [HP.getD j 0]) rfl aI bh fP dM rfl rfl rfl hw rfl fun w b33 hw => ?_;refine Is (cs := cD [120, 120]) rfl aI bh pj dM rfl kR hw rfl fun w b34 hw => ?_;refine Ea rfl aI iN rfl hw pK rfl fun w hw => ?_;refine al rfl De rfl (Db (f := 4) (T := T) (key := [HP.getD j 0]) (value := [120, 120]) ((gS (z := 1) (m := 1) (hw.b [ah b33 _ _]) rfl dM).b [cj vq V]) aW oM ((ve rfl .here).of sF) ((GS (l := [120, 120])).of sF) oM oM ((LM hgp).trans xe)) rfl fun w St hv => ?_;obtain ⟨rfl, hw⟩ := hv;refine z4 ?_;refine aT (cs := br T') (l' := br T') rfl tV rfl rfl aX rfl (by intro u hu; simp [br] at hu; rcases hu with rfl | rfl | rfl <;> rfl) hw pK (by simp [br]) rfl rfl (fun w hw => ?_);refine z7 ?_;refine aE rfl (fun h4 => ?_) fun h4 => ?_
  ·
   exact absurd rfl h4
  refine z5 ?_;exact ⟨8 - (j + 1), oM, [(1, _), (3, _), (23, _), (24, _), (25, iQ (j + 1 : Nat))], sB, j + 1, T', V', oM, rfl, rfl, ⟨Kf, Mk⟩, (hw.b [row 5 1 (sQ b33 _ _) _ _, O1 b34 _ _, ah b3 _ _, O1 b22 _ _, cj vq V']).tail.tail⟩
 have hj8 : j = 8 := oM;rw [hj8] at Kf xe hgp;refine z4 ?_;refine lA (l := br T) aX hw ?_;refine fG (cs := cD [113]) rfl aI bh fP dM rfl rfl rfl hw rfl fun w b46 hw => ?_;refine Ea rfl aI iN rfl hw pK rfl fun w hw => ?_;refine Is (cs := cD [120, 120]) rfl aI bh pj dM rfl kR hw rfl fun w SD hw => ?_;refine Ea rfl aI iN rfl hw pK rfl fun w hw => ?_;refine al rfl De rfl (Db (f := 4) (T := T) (key := [113]) (value := [120, 120]) (hw.b [cj vq V]) aW oM ((GS (l := [113])).of sF) ((GS (l := [120, 120])).of sF) oM oM ((LM hgp).trans xe)) rfl fun w v50 hv => ?_;obtain ⟨rfl, hw⟩ := hv;refine z4 ?_;refine aT (cs := br T') (l' := br T') rfl tV rfl rfl aX rfl (by intro u hu; simp [br] at hu; rcases hu with rfl | rfl | rfl <;> rfl) hw pK (by simp [br]) rfl rfl (fun w hw => ?_);refine z5 ?_;refine lA (l := br T') aX hw ?_;refine aO (v := gQ (eK (1, T'))) rfl rfl (fun w => kR) ?_;refine fG (cs := eK (1, T')) rfl dw nG K4 dM rfl rfl rfl hw rfl fun w b58 hw => ?_;have hw := gS (z := 4) (m := 1) hw rfl dM;refine al rfl my rfl (nr (V := V') (l := [(1, T')]) (hw.b [cj vq V']) Mk (Q6.of sF) sM (RI.of sF)) rfl fun w v59 hv => ?_;obtain ⟨rp, er, rfl, ⟨ZG, OI⟩, hw⟩ := hv;obtain ⟨acK, acJ⟩ := Sa Kf;obtain ⟨rfl, rfl⟩ := ZG.one acK;refine z3 ?_;refine aF rfl ft hw rfl fun w b6 hw => ?_;refine aT (cs := qu.cells ⟨⟨1, 3, 2, 1, 0, 9, 18, []⟩, nQ⟩) (l' := qu.cells ⟨⟨1, 3, 2, 1, 0, 9, 18, []⟩, nQ⟩) rfl tV rfl rfl aM rfl (by intro u hu; simp [qu.cells] at hu; rcases hu with rfl | rfl | rfl | rfl | rfl | rfl | rfl | rfl <;> rfl) hw pK (by simp [qu.cells]) rfl rfl (fun w hw => ?_);refine z5 ?_;refine al rfl my rfl (nr (V := V') (l := []) (hw.b [cj vq V']) Mk Wq sM (RI.of sF)) rfl fun w v64 hv => ?_;obtain ⟨rp2, er2, rfl, ⟨acb, abz⟩, hw⟩ := hv;obtain ⟨rfl, rfl⟩ := acb.one acJ;refine z3 ?_;refine aF rfl ft hw rfl fun w b8 hw => ?_;refine aT (cs := qu.cells ⟨wZ, nQ⟩) (l' := qu.cells ⟨wZ, nQ⟩) rfl tV rfl rfl aM rfl (by intro u hu; simp [qu.cells] at hu; rcases hu with rfl | rfl | rfl | rfl | rfl | rfl | rfl | rfl <;> rfl) hw pK (by simp [qu.cells]) rfl rfl (fun w hw => ?_);refine z4 ?_;refine aO (v := gQ (qu.cells ⟨⟨1, 3, 2, 1, 0, 9, 18, []⟩, nQ⟩)) rfl rfl (fun w => kR) ?_;refine aF rfl ft hw rfl fun w rF hw => ?_;refine aT (cs := qu.cells ⟨⟨1, 3, 2, 1, 0, 9, 18, []⟩, nQ⟩) (l' := qu.cells ⟨⟨1, 3, 2, 1, 0, 9, 18, []⟩, nQ⟩) rfl tV rfl rfl aM rfl (by intro u hu; simp [qu.cells] at hu; rcases hu with rfl | rfl | rfl | rfl | rfl | rfl | rfl | rfl <;> rfl) hw pK (by simp [qu.cells]) rfl rfl (fun w hw => ?_);refine z6 ?_;refine ay (d := 70) rfl (fun h5 => ?_) fun h5 => ?_
 ·
  refine z4 ?_;refine ay (d := 74) rfl (fun h6 => ?_) fun h6 => ?_
  ·
   refine lA (l := qu.cells ⟨⟨1, 3, 2, 1, 0, 9, 18, []⟩, nQ⟩) aM hw ?_;refine lA (l := qu.cells ⟨⟨1, 3, 2, 1, 0, 9, 18, []⟩, nQ⟩) aM hw ?_;refine al rfl j6 rfl (kQ (a := ⟨⟨1, 3, 2, 1, 0, 9, 18, []⟩, nQ⟩) (b := ⟨⟨1, 3, 2, 1, 0, 9, 18, []⟩, nQ⟩) hw (BI rfl _) (BI rfl _)) rfl fun w v77 hv => ?_;obtain ⟨rfl, hw⟩ := hv;refine z2 ?_;refine ay (d := 79) rfl (fun h7 => ?_) fun h7 => ?_
   ·
    refine z6 ?_;exact aK rfl rfl rfl ⟨by simp, (by repeat (first | exact hw | replace hw := hw.tail))⟩
   exact absurd rfl h7
  exact absurd rfl h6
 exact absurd rfl h5
end

section
open Go.ChangeShapes Go.WideShapes Go.RowKit
theorem Rd.append {w : World} {b o : Nat} {xs ys : List Value} (h1 : Rd w ⟨b, o, none⟩ xs) (h2 : Rd w ⟨b, o + xs.length, none⟩ ys) : Rd w ⟨b, o, none⟩ (xs ++ ys) := fun j u hu => by
 rw [List.getElem?_append] at hu;split at hu
 ·exact h1 j u hu
 rename_i hj;have := h2 (j - xs.length) u hu;rw [fX] at this ⊢
 rwa [show o + xs.length + (j - xs.length) = o + j by omega] at this
theorem Rd.rows {w : World} {b o z : Nat} (f : Nat -> List Value) : ∀ n, (∀ i, i < n -> (f i).length = z /\ Rd w ⟨b, o + i * z, none⟩ (f i)) -> Rd w ⟨b, o, none⟩ ((List.range n).map f).flatten /\ ((List.range n).map f).flatten.length = n * z
 | 0, _ => ⟨Rd.nil, by simp⟩
 | n + 1, h => by
  obtain ⟨h1, h2⟩ := Rd.rows f n fun i hi => h i oM
  obtain ⟨h3, h4⟩ := h n oM;rw [Tn, kz, List.flatten_append];refine ⟨h1.append (by rw [h2]; simpa using h4), ?_⟩;simp only [de, h2, cH, gE, EY, List.flatten_nil, pz, h3, BK, Nat.one_mul]
theorem Jy {w : World} {a : Addr} {n : Nat} {cs : List Value} (h : w.cells? 0 a n = some cs) : cs.length = n /\ ∀ i, i < n -> w.cell? (a.add i) = cs[i]? := by
 unfold World.cells? at h;rw [ao (dy _)] at h
 exact ⟨by simpa using mapM_some_length h, fun i hi => mapM_some_get h i i (by simp [hi])⟩
section
variable {H : Type} {enc : TypeId × Value -> H} {P : Program} {w : World} {n : Nat} {cs : List Value} {x : DataW H × List MemPlace} {t : TypeId}
theorem E6 {e : TypeId} {z k : Nat} (ht : P.underlying t = some (.slice e)) (hz : P.cellsOf e = z) (yj : 0 < z) (hk : P.bytesOf e = k) (h : DataW.trod enc P w 0 (fun _ => true) true n t cs = some x) (Sy : ∀ q ∈ DataW.weights P t x.1, q <= reachBytes) :
  ∃ (v : Value) (rows : List (List Value)), cs = [v] /\ rows.length * k <= reachBytes ∧
   (((∃ a, v = .slice a 0 0) /\ rows = []) \/ ∃ b o cap, v = .slice (some ⟨b, o, none⟩) rows.length cap /\ rows.length <= cap /\ Rd w ⟨b, o, none⟩ rows.flatten) ∧
   ∀ r ∈ rows, ∃ m y, DataW.trod enc P w 0 (fun _ => true) true m e r = some y /\ ∀ q ∈ DataW.weights P e y.1, q <= reachBytes := by
 rcases DataW.trod_slice ht h with ⟨rfl, rfl⟩ | ⟨a, len, cap, elems, rest, m, rfl, rfl, rfl, _, WX, Nx, hel, rZ, abd, _⟩
 ·exact ⟨_, [], rfl, by simp, .inl ⟨⟨_, rfl⟩, rfl⟩, by simp⟩
 obtain ⟨Ur, Yr⟩ := abd rfl;rw [hz] at rZ Yr;simp only [DataW.weights, ht, hk, bX, bQ, gF] at Sy
 have fx : ∀ (y : DataW H × List MemPlace), y ∈ elems -> ∀ q ∈ DataW.weights P e y.1, q <= reachBytes := fun y hy q hq => by
  refine Sy q (.inr (.inl ?_));have gen : ∀ l : List (DataW H), y.1 ∈ l -> q ∈ DataW.weightsAll P e l := by
   intro l
   induction l with
   | nil => intro h; cases h
   | cons d l ih =>
    intro h;rw [DataW.weightsAll, gF];rcases bQ.1 h with h | h
    ·subst h; exact .inl hq
    exact .inr (ih h)
  exact gen _ (List.mem_map_of_mem hy)
 by_cases hc : cap = 0
 ·have : len = 0 := oM;subst hc; subst this;exact ⟨_, [], rfl, by simp, .inl ⟨⟨_, rfl⟩, rfl⟩, by simp⟩
 have aad : ∃ c0, w.cells? 0 (a.add (0 * z)) z = some c0 := by
  by_cases hl : 0 < len
  ·have h1 := rZ 0 hl;have : 0 < elems.length := oM;rw [dm this] at h1;obtain ⟨c0, h2, _⟩ := Option.bind_eq_some_iff.1 h1;exact ⟨c0, h2⟩
  have hl0 : len = 0 := oM;have h1 := Yr 0 oM;have : 0 < rest.length := oM;rw [dm this] at h1;obtain ⟨c0, h2, _⟩ := Option.bind_eq_some_iff.1 h1;rw [hl0] at h2
  exact ⟨c0, h2⟩
 obtain ⟨b, o, spot⟩ := a;have Av : spot = none := by
  obtain ⟨c0, h0⟩ := aad;obtain ⟨h1, h2⟩ := Jy h0;have h3 := h2 0 yj;have : 0 < c0.length := oM;rw [dm this] at h3
  simpa [Addr.add] using World.cell?_spot h3
 subst Av;have s7 : ∀ i, i < len -> ∃ r, w.cells? 0 (Addr.add ⟨b, o, none⟩ (i * z)) z = some r /\ ∃ y, y ∈ elems /\ DataW.trod enc P w 0 (fun _ => true) true m e r = some y := fun i hi => by
  have h1 := rZ i hi;have tX : i < elems.length := oM;rw [dm tX] at h1;obtain ⟨r, h2, h3⟩ := Option.bind_eq_some_iff.1 h1;exact ⟨r, h2, _, JW tX, h3⟩
 let f : Nat -> List Value := fun i => (w.cells? 0 (Addr.add ⟨b, o, none⟩ (i * z)) z).getD []
 have hf : ∀ i, i < len -> (f i).length = z /\ Rd w ⟨b, o + i * z, none⟩ (f i) := fun i hi => by
  obtain ⟨r, h1, _⟩ := s7 i hi;have hfi : f i = r := by simp only [f, h1, To]
  obtain ⟨h2, h3⟩ := Jy h1;rw [hfi];refine ⟨h2, fun j u hu => ?_⟩;have hj : j < z := by
   rcases qz j z with h | h
   ·exact h
   rw [Dp oM] at hu; cases hu
  have := (h3 j hj).trans hu
  rwa [fX] at this
 refine ⟨_, (List.range len).map f, rfl, ?_, .inr ⟨b, o, cap, by simp, by simpa using WX, (Rd.rows f len hf).1⟩, fun r hr => ?_⟩
 ·have := Sy _ (.inl rfl);rw [bX, List.length_range, <-hel];exact Q9 (Nat.mul_le_mul_right _ (Nat.le_add_right _ _)) this
 obtain ⟨i, hi, rfl⟩ := dE.1 hr;obtain ⟨r, h1, y, hy, h2⟩ := s7 i (rj.1 hi);exact ⟨m, y, by simpa [f, h1] using h2, fx y hy⟩
theorem Zl {α : Type} {f : α -> List Value} {Q : α -> Prop} : ∀ (rows : List (List Value)), (∀ r ∈ rows, ∃ c, r = f c /\ Q c) -> ∃ l : List α, rows = l.map f /\ ∀ c ∈ l, Q c
 | [], _ => ⟨[], rfl, by simp⟩
 | r :: rows, h => by
  obtain ⟨c, rfl, hc⟩ := h r (iD ..);obtain ⟨l, rfl, hl⟩ := Zl rows fun r hr => h r (jN _ hr)
  exact ⟨c :: l, rfl, fun d hd => by
   rcases bQ.1 hd with h | h
   ·subst h; exact hc
   ·exact hl d h⟩
theorem Ob {e : TypeId} (ht : P.underlying t = some (.slice e)) (he : P.underlying e = some (.int .u8)) (hz : P.cellsOf e = 1) (hk : P.bytesOf e = 1) (h : DataW.trod enc P w 0 (fun _ => true) true n t cs = some x) (Sy : ∀ q ∈ DataW.weights P t x.1, q <= reachBytes) :
  ∃ (v : Value) (l : bW), cs = [v] /\ dP v l w /\ l.length <= 140737488351232 := by
 obtain ⟨v, rows, rfl, hb, hs, hr⟩ := E6 ht hz dM hk h Sy;obtain ⟨l, rfl, -⟩ := Zl (f := fun c : UInt8 => [bv c]) (Q := fun _ => True) rows fun r hm => by
  obtain ⟨m, y, h1, _⟩ := hr r hm;obtain ⟨k, rfl, rfl, hwf⟩ := DataW.trod_int he h1;have := bounds_u8 hwf;refine ⟨UInt8.ofNat k.toNat, ?_, trivial⟩;simp only [bv, List.cons.injEq, and_true, Value.int.injEq, true_and];have h2 : (UInt8.ofNat k.toNat).toNat = k.toNat % 2 ^ 8 := UInt8.toNat_ofNat';rw [h2]; omega
 have Ej : (l.map fun c : UInt8 => [bv c]).flatten = cD l := by
  clear hb hs hr
  induction l with
  | nil => rfl
  | cons c l ih => rw [cH, EY, ih]; rfl
 rw [bX, Ej] at hs;refine ⟨v, l, rfl, ?_, by simp [reachBytes] at hb; omega⟩;rcases hs with ⟨ha, hl⟩ | hs
 ·exact .inl ⟨ha, by simpa using hl⟩
 exact .inr hs
end
theorem U0 {G : Gh} {R : List aw} {W w : World} {a : Addr} {u : Value} (hs : an G (VG W :: R) w) (h : W.cell? a = some u) : w.cell? a = some u := by
 cases hb : W.heap[a.block]? with
 | none => simp [World.cell?, hb] at h
 | some o =>
  have h1 := hs.E' hb;simp only [World.cell?, hb] at h;simp only [World.cell?, h1];exact h
theorem Rd.pI {W : World} {a : Addr} {cs : List Value} (h : Rd W a cs) : aG [VG W] (fun w => Rd w a cs) := fun g w hs j u hu => U0 hs (h j u hu)
theorem dP.pI {W : World} {v : Value} {l : bW} (h : dP v l W) : aG [VG W] (dP v l) := fun g w hs => by
 rcases h with h | ⟨b, o, cap, h1, h2, h3⟩
 ·exact .inl h
 exact .inr ⟨b, o, cap, h1, h2, h3.pI.at hs⟩
theorem g7.pI {W : World} {z : Nat} {v : Value} {l : List (List Value)} (h : g7 z v l W) : aG [VG W] (g7 z v l) := fun g w hs => by
 rcases h with h | ⟨b, o, cap, h1, h2, h3, h4⟩
 ·exact .inl h
 exact .inr ⟨b, o, cap, h1, h2, h3, h4.pI.at hs⟩
section
variable {H : Type} {enc : TypeId × Value -> H} {W W' : World} {n : Nat} {cs : List Value} {x : DataW H × List MemPlace}
theorem coI : prog.cellsOf 3 = 1 := by kernel_rfl
theorem coU : prog.cellsOf 5 = 1 := by kernel_rfl
theorem boU : prog.bytesOf 5 = 1 := by kernel_rfl
theorem coT : prog.cellsOf 62 = 3 := by kernel_rfl
theorem kids : Kids prog (· < prog.types.size) := kids_rows kR kR
theorem ac9 : ∀ t e, t < prog.types.size -> prog.underlying t = some (.slice e) -> 0 < prog.cellsOf e := slices_full_of _ kR
theorem Yj {P : Program} {t e : TypeId} {v : Value} {r : Reach} {b0 : Nat} (ht : P.underlying t = some (.slice e)) (h : Value.okWide P W r b0 t v) : ∃ a len cap, v = .slice a len cap /\ ∀ x, a = some x -> x.spot = none := by
 obtain ⟨a, len, cap, rfl⟩ := okWide_slice ht h;refine ⟨a, len, cap, rfl, fun x hx => ?_⟩;subst hx;simp only [Value.okWide, ht, Cell.okWide, Cell.ok] at h;exact h.2.2.2.1
theorem Zg {z : Nat} {v : Value} {rows : List (List Value)} (hz : ∀ r ∈ rows, r.length = z) (hs : ((∃ a, v = .slice a 0 0) /\ rows = []) \/ ∃ b o cap, v = .slice (some ⟨b, o, none⟩) rows.length cap /\ rows.length <= cap /\ Rd W ⟨b, o, none⟩ rows.flatten) : g7 z v rows W := by
 rcases hs with ⟨⟨a, h1⟩, h2⟩ | ⟨b, o, cap, h1, h2, h3⟩
 ·exact .inl ⟨a, h1, fun _ _ => rfl, h2⟩
 exact .inr ⟨b, o, cap, h1, h2, hz, h3⟩
theorem Rs (h : DataW.trod enc prog W 0 (fun _ => true) true n 62 cs = some x) : ∃ t : Tr, cs = br t := by
 obtain ⟨xs, m, rfl, rfl, hl, xx, hf⟩ := DataW.trod_struct underlying62 h;have hl4 : cs.length = 3 := hl.trans coT
 match cs, hl4 with
 | [a, b, c], _ =>
  match xs, (show xs.length = 3 from xx) with
  | [x0, x1, x2], _ =>
   have h0 : DataW.trod enc prog W 0 (fun _ => true) true m 3 (([a, b, c].drop 0).take (prog.cellsOf 3)) = some x0 := hf 0 _ rfl;have h1 : DataW.trod enc prog W 0 (fun _ => true) true m 3 (([a, b, c].drop 1).take (prog.cellsOf 3)) = some x1 := hf 1 _ rfl;have h2 : DataW.trod enc prog W 0 (fun _ => true) true m 3 (([a, b, c].drop 2).take (prog.cellsOf 3)) = some x2 := hf 2 _ rfl;rw [coI] at h0 h1 h2;simp only [NX, JY, LJ, NW] at h0 h1 h2
   obtain ⟨i, hi, -, -⟩ := DataW.trod_int cP h0;obtain ⟨j, hj, -, -⟩ := DataW.trod_int cP h1;obtain ⟨k, hk, -, -⟩ := DataW.trod_int cP h2;simp only [List.cons.injEq, and_true] at hi hj hk;subst hi; subst hj; subst hk;exact ⟨⟨i, j, k⟩, rfl⟩
theorem Tk {R : List aw} {G : Gh} (hs : an G (VG W :: R) W') {p : MemPlace} (hp : p.block < W.heap.size) : W.sameAt W' p := by
 have hb : W'.heap[p.block]? = W.heap[p.block]? := by
  have h1 := N8 hp;rw [hs.E' h1, h1]
 cases p with
 | cell b off => simp only [MemPlace.block] at hb; simp only [World.sameAt, World.cell?, hb]
 | map b => exact hb
theorem yd {sp : Nat -> Bool} : ∀ {ts : List TypeId} {vs : List Value} {ds : List (DataW H)} {ps : List MemPlace}, DataW.TrodAll enc prog W 0 sp true ts vs ds ps -> (∀ p ∈ ps, W.sameAt W' p) -> DataW.TrodAll enc prog W' 0 sp true ts vs ds ps
 | [], [], [], _, h, _ => h
 | _ :: _, _ :: _, _ :: _, _, ⟨p, q, ⟨n, hn⟩, h2, e⟩, hs =>
  ⟨p, q, ⟨n, DataW.trod_carry n _ _ _ hn fun x hx => hs x (by rw [e]; exact xt _ hx)⟩, yd h2 fun x hx => hs x (by rw [e]; exact N5 _ hx), e⟩
theorem aaB {f : Func} {s : ChangeSpec} {args : Array Value} {ds gs : List (DataW H)} {before : List MemPlace} (hW : DataW.Whole enc prog f.params.toList s.vars false W args.toList ds gs before) (hv : s.vars = [])
  (hs : an (aaj W) [VG W] W') (hr : f.resultTypes = #[4]) (Kf : s.fn H (ds ++ gs) = ⟨[.lit (.bool true)], ds, []⟩) (hp : ∀ t ∈ f.params.toList, t < prog.types.size) :
  s.post enc prog f false true false false W args (.bool true) W' := by
 have hW' := hW;obtain ⟨p, q, hA, hV, rfl, _, _⟩ := hW;have hV' : DataW.TrodVars enc prog W (fun _ => true) [] gs q := by rw [hv] at hV; exact hV
 obtain ⟨rfl, rfl⟩ := trodVars_none hV';have iy := DataW.TrodAll.lt hA;refine ⟨ds, [], p ++ [], [], p, [], hW', ?_, ?_, ?_, ?_, fun h => by cases h⟩
 ·rw [Kf, hr];exact trodAll_mk1 (shut_bool underlying4 true)
 ·rw [Kf];exact yd (DataW.TrodAll.respare kids ac9 hp hA fun x hx => by simpa using iy x hx) fun x hx => Tk hs (iy x hx)
 ·rw [Kf, hv]; rfl
 have hg := hs.1;refine ⟨congrArg Gh.os hg, congrArg Gh.output hg, fun i hi => ?_⟩;have h1 := N8 hi;have h2 := hs.E' h1;rw [h1, h2];split <;> simp_all
end
end
abbrev qH := BitVec 32
def abX : List Nat := [0, 274646895, 549293790, 820201905, 1098587580, 1361435347, 1640403810, 1905808397, 2197175160, 2460548119, 2722870694, 2987750089, 3280807620, 3553878443, 3811616794, 4084100981]
def Zf (n : Nat) : qH := BitVec.ofNat 32 (abX.getD n 0)
def zX (w : qH) : qH := (w >>> 4) ^^^ Zf (w &&& 15#32).toNat
def Yc (w : qH) (x : UInt8) : qH := zX (zX (w ^^^ BitVec.ofNat 32 x.toNat))
def Rv (w : qH) : List UInt8 -> qH
 | [] => w
 | x :: l => Rv (Yc w x) l
def JR (l : List UInt8) : qH := ~~~ Rv (~~~ 0#32) l
def nm : List UInt8 -> Nat
 | [] => 0
 | x :: l => x.toNat + 256 * nm l
theorem yT (w : qH) : ∀ (l m : List UInt8), Rv w (l ++ m) = Rv (Rv w l) m
 | [], m => rfl
 | x :: l, m => by simp only [iC, Rv]; exact yT _ l m
def R1 (w : qH) : qH := (w >>> 1) ^^^ (if w.getLsbD 0 then 2197175160#32 else 0#32)
def Rn : Nat -> qH -> qH
 | 0, w => w
 | n + 1, w => Rn n (R1 w)
theorem Hg (a b : qH) : R1 (a ^^^ b) = R1 a ^^^ R1 b := by
 unfold R1;apply BitVec.eq_of_getLsbD_eq;intro i hi;simp only [BitVec.getLsbD_xor, BitVec.getLsbD_ushiftRight];cases h1 : a.getLsbD 0 <;> cases h2 : b.getLsbD 0 <;> simp <;> cases a.getLsbD (1 + i) <;> cases b.getLsbD (1 + i) <;> simp
theorem U7 : ∀ (n : Nat) (a b : qH), Rn n (a ^^^ b) = Rn n a ^^^ Rn n b
 | 0, a, b => rfl
 | n + 1, a, b => by simp only [Rn]; rw [Hg, U7]
theorem XY : R1 0#32 = 0#32 := by decide
theorem QH : ∀ n : Nat, Rn n 0#32 = 0#32
 | 0 => rfl
 | n + 1 => by simp only [Rn]; rw [XY, QH]
theorem aaA {w : qH} (h : R1 w = 0#32) : w = 0#32 := by
 unfold R1 at h;cases h0 : w.getLsbD 0 with
 | true =>
  exfalso;rw [ao h0] at h;have h1 := congrArg (fun x : qH => x.getLsbD 31) h;simp [BitVec.getLsbD_xor, BitVec.getLsbD_ushiftRight] at h1
 | false =>
  rw [aj (by rw [h0]; decide), BitVec.xor_zero] at h;apply BitVec.eq_of_getLsbD_eq;intro i hi;cases i with
  | zero => simpa using h0
  | succ i =>
   have h1 := congrArg (fun x : qH => x.getLsbD i) h;simp only [BitVec.getLsbD_ushiftRight] at h1;rw [Nat.add_comm] at h1
   simpa using h1
theorem Pa : ∀ {n : Nat} {w : qH}, Rn n w = 0#32 -> w = 0#32
 | 0, w, h => h
 | n + 1, w, h => aaA (Pa (n := n) h)
theorem Bp {w : qH} (h : w.getLsbD 0 = false) : R1 w = w >>> 1 := by unfold R1; rw [h]; simp
theorem Th (w : qH) : zX w = Rn 4 w := by
 have ZR : w = ((w >>> 4) <<< 4) ^^^ (w &&& 15#32) := by
  apply BitVec.eq_of_getLsbD_eq;intro i hi;have h15 : (15#32 : qH).getLsbD i = decide (i < 4) := by
   rcases (show i = 0 \/ i = 1 \/ i = 2 \/ i = 3 \/ 4 <= i by omega) with rfl | rfl | rfl | rfl | h
   ·decide
   ·decide
   ·decide
   ·decide
   rw [show (15#32 : qH) = BitVec.ofNat 32 15 from rfl, BitVec.getLsbD_ofNat];have h1 : Nat.testBit 15 i = false := Wa (Rh (by decide : 15 < 2 ^ 4) (N4 dM h));simp [h1]; omega
  simp only [BitVec.getLsbD_xor, BitVec.getLsbD_shiftLeft, BitVec.getLsbD_ushiftRight, BitVec.getLsbD_and, h15]
  by_cases h4 : i < 4
  ·simp [h4]
  simp [h4, hi, show 4 + (i - 4) = i by omega]
 have hhi : Rn 4 ((w >>> 4) <<< 4) = w >>> 4 := by
  have e0 : ((w >>> 4) <<< 4).getLsbD 0 = false := by simp
  have e1 : (((w >>> 4) <<< 4) >>> 1).getLsbD 0 = false := by simp
  have e2 : ((((w >>> 4) <<< 4) >>> 1) >>> 1).getLsbD 0 = false := by simp
  have e3 : (((((w >>> 4) <<< 4) >>> 1) >>> 1) >>> 1).getLsbD 0 = false := by simp
  simp only [Rn];rw [Bp e0, Bp e1, Bp e2, Bp e3];apply BitVec.eq_of_getLsbD_eq;intro i hi;simp only [BitVec.getLsbD_ushiftRight, BitVec.getLsbD_shiftLeft]
  by_cases h : i < 28
  ·simp [show (1 + (1 + (1 + (1 + i)))) < 32 by omega, show ¬ (1 + (1 + (1 + (1 + i)))) < 4 by omega, show 4 + (1 + (1 + (1 + (1 + i))) - 4) = 4 + i by omega]
  simp [show ¬ (1 + (1 + (1 + (1 + i)))) < 32 by omega];exact BitVec.getLsbD_of_ge w (4 + i) oM
 have Jf : Rn 4 (w &&& 15#32) = Zf (w &&& 15#32).toNat := by
  have h16 : (w &&& 15#32).toNat < 16 := by
   rw [BitVec.toNat_and];exact Nat.lt_of_le_of_lt Nat.and_le_right dM
  have e : (w &&& 15#32) = BitVec.ofNat 32 (w &&& 15#32).toNat := by simp
  generalize (w &&& 15#32).toNat = n at h16 e
  rw [e];have key : ∀ n : Fin 16, Rn 4 (BitVec.ofNat 32 n.1) = Zf n.1 := by decide
  exact key ⟨n, h16⟩
 calc zX w = w >>> 4 ^^^ Zf (w &&& 15#32).toNat := rfl
  _ = Rn 4 (((w >>> 4) <<< 4) ^^^ (w &&& 15#32)) := by rw [U7, hhi, Jf]
  _ = Rn 4 w := by rw [<-ZR]
def Ql (b : Bool) : qH := if b then 1#32 else 0#32
def xB : qH -> List Bool -> qH
 | w, [] => w
 | w, b :: l => xB (R1 (w ^^^ Ql b)) l
theorem vN (w : qH) : ∀ (l m : List Bool), xB w (l ++ m) = xB (xB w l) m := by
 intro l
 induction l generalizing w with
 | nil => intro m; rfl
 | cons b l ih => intro m; simp only [iC, xB]; exact ih _ m
theorem Xs (a b : Bool) : Ql (a != b) = Ql a ^^^ Ql b := by cases a <;> cases b <;> rfl
theorem MC : ∀ (l m : List Bool) (v w : qH), l.length = m.length -> xB (v ^^^ w) (List.zipWith (· != ·) l m) = xB v l ^^^ xB w m
 | [], [], v, w, _ => rfl
 | a :: l, b :: m, v, w, h => by
  simp only [List.zipWith_cons_cons, xB];rw [Xs, show v ^^^ w ^^^ (Ql a ^^^ Ql b) = (v ^^^ Ql a) ^^^ (w ^^^ Ql b) by ac_rfl, Hg];exact MC l m _ _ (by simpa using h)
 | [], _ :: _, _, _, h => by simp at h
 | _ :: _, [], _, _, h => by simp at h
theorem zd : ∀ (n : Nat) (w : qH), xB w (List.replicate n false) = Rn n w
 | 0, w => rfl
 | n + 1, w => by
  simp only [List.replicate_succ, xB, Rn];rw [show w ^^^ Ql false = w by simp [Ql]];exact zd n _
def mT (n X : Nat) : List Bool := (List.range n).map X.testBit
theorem O2 (n X : Nat) : mT (n + 1) X = X.testBit 0 :: mT n (X / 2) := by
 unfold mT;rw [List.range_succ_eq_map, cH, Hx]
 congr 1
 apply LH;intro i _;simp [Nat.testBit_succ]
theorem aaz {X : Nat} (h : X < 2 ^ 32) : R1 (BitVec.ofNat 32 X) = R1 (Ql (X.testBit 0)) ^^^ BitVec.ofNat 32 (X / 2) := by
 have e : BitVec.ofNat 32 X = Ql (X.testBit 0) ^^^ BitVec.ofNat 32 (2 * (X / 2)) := by
  apply BitVec.eq_of_getLsbD_eq;intro i hi;rw [BitVec.getLsbD_xor, BitVec.getLsbD_ofNat, BitVec.getLsbD_ofNat];cases i with
  | zero =>
   have h1 : (2 * (X / 2)).testBit 0 = false := by simp
   rw [h1];cases X.testBit 0 <;> simp [Ql]
  | succ i =>
   have h1 : (2 * (X / 2)).testBit (i + 1) = X.testBit (i + 1) := by rw [Nat.testBit_succ, Nat.testBit_succ]; congr 1; omega
   rw [h1];cases X.testBit 0 <;> simp [Ql]
 have h2 : R1 (BitVec.ofNat 32 (2 * (X / 2))) = BitVec.ofNat 32 (X / 2) := by
  rw [Bp (by rw [BitVec.getLsbD_ofNat]; simp)];apply BitVec.eq_of_toNat_eq;rw [BitVec.toNat_ushiftRight, BitVec.toNat_ofNat, BitVec.toNat_ofNat, LC oM, LC oM, Nat.shiftRight_eq_div_pow];omega
 rw [e, Hg, h2]
theorem xf : ∀ (n X : Nat) (w : qH), n <= 32 -> X < 2 ^ n -> xB w (mT n X) = Rn n (w ^^^ BitVec.ofNat 32 X)
 | 0, X, w, _, h => by
  have : X = 0 := by simpa using h
  subst this; simp [mT, xB, Rn]
 | n + 1, X, w, hn, h => by
  have h32 : X < 2 ^ 32 := Rh h (N4 dM hn);have h2 : X / 2 < 2 ^ n := by rw [Nat.pow_succ] at h; omega
  rw [O2];simp only [xB, Rn];rw [xf n (X / 2) _ oM h2, Hg, Hg, aaz h32]
  congr 1
  ac_rfl
def ui (l : List UInt8) : List Bool := mT (8 * l.length) (nm l)
theorem oI : ∀ l : List UInt8, nm l < 2 ^ (8 * l.length)
 | [] => by simp [nm]
 | x :: l => by
  have h := oI l;have hx : x.toNat < 256 := x.toNat_lt;simp only [nm, g5];rw [show 8 * (l.length + 1) = 8 * l.length + 8 by omega, Nat.pow_add];omega
theorem GU (x : UInt8) (l : List UInt8) : ui (x :: l) = mT 8 x.toNat ++ ui l := by
 have hx : x.toNat < 2 ^ 8 := x.toNat_lt;unfold ui mT;rw [g5, show 8 * (l.length + 1) = 8 + 8 * l.length by omega, List.range_add, kz, Hx];have e : ∀ i, (nm (x :: l)).testBit i = if i < 8 then x.toNat.testBit i else (nm l).testBit (i - 8) := fun i => by
  have := Nat.testBit_two_pow_mul_add (nm l) hx i;simp only [nm];rw [show x.toNat + 256 * nm l = 2 ^ 8 * nm l + x.toNat by omega];exact this
 congr 1
 ·apply LH;intro i hi;rw [e, ao (rj.1 hi)]
 apply LH;intro i hi
 show (nm (x :: l)).testBit (8 + i) = _
 rw [e, aj oM, show 8 + i - 8 = i by omega]
theorem Ah : ∀ (l : List UInt8) (w : qH), Rv w l = xB w (ui l)
 | [], w => rfl
 | x :: l, w => by
  have hx : x.toNat < 2 ^ 8 := x.toNat_lt;rw [GU, vN, xf 8 _ _ dM hx, <-Ah l];simp only [Rv, Yc, Th]
  congr 1
theorem Pq {l : List UInt8} (h4 : 4 <= l.length) (h : nm (l.drop (l.length - 4)) = (JR (l.take (l.length - 4))).toNat) : Rv (~~~ 0#32) l = Rn 32 (~~~ 0#32) := by
 have hl : (l.drop (l.length - 4)).length = 4 := by simp; omega
 have iy := oI (l.drop (l.length - 4));rw [hl] at iy
 conv => lhs; rw [<-N7 (l.length - 4) l]
 rw [yT, Ah (l.drop (l.length - 4))];unfold ui;rw [hl, xf 32 _ _ dM iy, h];have e : ∀ x : qH, x ^^^ ~~~ x = ~~~ 0#32 := by
  intro x;apply BitVec.eq_of_getLsbD_eq;intro i hi;rw [BitVec.getLsbD_xor, BitVec.getLsbD_not, BitVec.getLsbD_not];simp only [hi, decide_true, Bool.true_and];cases x.getLsbD i <;> simp
 rw [BitVec.ofNat_toNat, BitVec.setWidth_eq];unfold JR;rw [e]
def sI (l : List UInt8) (i : Nat) : Bool := (l.getD (i / 8) 0).toNat.testBit (i % 8)
theorem CB : ∀ {l : List UInt8} {i : Nat}, i < 8 * l.length -> (ui l)[i]? = some (sI l i)
 | [], i, h => by simp at h
 | x :: l, i, h => by
  rw [GU];have hlen : (mT 8 x.toNat).length = 8 := by simp [mT]
  by_cases h8 : i < 8
  ·rw [Wc oM];unfold mT sI;rw [dg, LI h8, show i / 8 = 0 by omega, show i % 8 = i by omega]; rfl
  rw [Ty oM, hlen];simp only [g5] at h;rw [CB (l := l) (i := i - 8) oM];unfold sI;rw [show i / 8 = (i - 8) / 8 + 1 by omega, show i % 8 = (i - 8) % 8 by omega]; rfl
theorem CA (l : List UInt8) : (ui l).length = 8 * l.length := by simp [ui, mT]
theorem abL {a b : List UInt8} (hl : a.length = b.length) {F B : Nat} (hB : B ≠ 0) (h32 : B < 2 ^ 32) (xA : ∀ k, B.testBit k = true -> F + k < 8 * a.length)
  (hD : ∀ i, i < 8 * a.length -> sI b i = (sI a i != (decide (F <= i) && B.testBit (i - F)))) (w : qH) : Rv w a ≠ Rv w b := by
 intro heq;obtain ⟨k0, Vs⟩ := Nat.exists_testBit_of_ne_zero hB;have hF := xA k0 Vs
 let m := min 32 (8 * a.length - F)
 have hm : m <= 32 /\ F + m <= 8 * a.length := ⟨Nat.min_le_left _ _, by have := Nat.min_le_right 32 (8 * a.length - F); show F + min 32 (8 * a.length - F) <= _; omega⟩;have hBm : B < 2 ^ m := by
  rcases Nat.le_total 32 (8 * a.length - F) with h | h
  ·rw [show m = 32 from EW h]; exact h32
  rw [show m = 8 * a.length - F from Nat.min_eq_right h];refine Nat.lt_pow_two_of_testBit B fun i hi => ?_
  cases hb : B.testBit i with
  | false => rfl
  | true => have := xA i hb; omega
 have hz : List.zipWith (· != ·) (ui a) (ui b) = List.replicate F false ++ mT m B ++ List.replicate (8 * a.length - F - m) false := by
  apply LF;intro i
  by_cases hi : i < 8 * a.length
  ·rw [List.getElem?_zipWith, CB hi, CB (by rw [<-hl]; exact hi)];simp only [hD i hi];rw [pZ]
   by_cases h1 : i < F
   ·rw [Wc (by simp; exact h1), Wb, ao h1];simp [show ¬ F <= i by omega]
   rw [Ty (by simp; omega), JZ]
   by_cases h2 : i - F < m
   ·rw [Wc (by simp [mT]; exact h2)];unfold mT;rw [dg, LI h2];simp [show F <= i by omega]
   rw [Ty (by simp [mT]; omega), Wb, ao (by simp [mT]; omega)];have : B.testBit (i - F) = false := Wa (Rh hBm (N4 dM oM));simp [this]
  rw [Dp (by simp [CA]; omega), Dp (by simp [mT]; omega)]
 have h0 : xB (w ^^^ w) (List.zipWith (· != ·) (ui a) (ui b)) = 0#32 := by
  rw [MC _ _ _ _ (by rw [CA, CA, hl]), <-Ah, <-Ah, heq, BitVec.xor_self]
 rw [hz, vN, vN, BitVec.xor_self, zd, zd, QH, xf m B _ hm.1 hBm, BitVec.zero_xor] at h0;have h1 := Pa (Pa h0);have h2 := congrArg BitVec.toNat h1;rw [BitVec.toNat_ofNat, LC h32] at h2
 exact hB (by simpa using h2)
def yn (l : List UInt8) (i : Nat) : List UInt8 := l.set (i / 8) (l.getD (i / 8) 0 ^^^ UInt8.ofNat (2 ^ (i % 8)))
theorem R8 (l : List UInt8) (i : Nat) : (yn l i).length = l.length := by simp [yn]
theorem Ck (l : List UInt8) {i j : Nat} (h : i / 8 ≠ j) : (yn l i)[j]? = l[j]? := by unfold yn; rw [Tq, aj h]
theorem R9 {l : List UInt8} {i j : Nat} (hi : i < 8 * l.length) : sI (yn l i) j = (sI l j != decide (i = j)) := by
 unfold sI
 by_cases h : i / 8 = j / 8
 ·have e : (yn l i).getD (j / 8) 0 = l.getD (i / 8) 0 ^^^ UInt8.ofNat (2 ^ (i % 8)) := by
   unfold yn;rw [lP, Tq, ao h, ao oM]; rfl
  have h1 : 2 ^ (i % 8) < 2 ^ 8 := Nat.pow_lt_pow_right dM oM;rw [e, UInt8.toNat_xor, UInt8.toNat_ofNat', LC h1, Nat.testBit_xor, Nat.testBit_two_pow, h]
  congr 1
  simp only [cd];omega
 have e : (yn l i).getD (j / 8) 0 = l.getD (j / 8) 0 := by rw [lP, Ck l h, <-lP]
 rw [e];have : i ≠ j := fun e => h (by rw [e])
 simp [this]
def jy (l : List UInt8) (F B : Nat) : Nat -> List UInt8
 | 0 => l
 | n + 1 => if B.testBit n = true then yn (jy l F B n) (F + n) else jy l F B n
theorem se (l : List UInt8) (F B : Nat) : ∀ n, (jy l F B n).length = l.length
 | 0 => rfl
 | n + 1 => by
  rw [jy];split
  ·rw [R8, se]
  exact se l F B n
theorem Jl {l : List UInt8} {F B : Nat} : ∀ {n : Nat}, (∀ k, k < n -> B.testBit k = true -> F + k < 8 * l.length) -> ∀ j, sI (jy l F B n) j = (sI l j != (decide (F <= j /\ j < F + n) && B.testBit (j - F)))
 | 0, _, j => by
  have : ¬ (F <= j /\ j < F + 0) := oM;rw [decide_eq_false this]; simp [jy]
 | n + 1, h, j => by
  have ih := Jl (l := l) (F := F) (B := B) (n := n) (fun k hk => h k oM) j;rw [jy]
  by_cases hb : B.testBit n = true
  ·rw [ao hb, R9 (by rw [se]; exact h n oM hb), ih]
   by_cases hj : F + n = j
   ·subst hj;rw [show F + n - F = n by omega, hb];simp
   have e : decide (F <= j /\ j < F + (n + 1)) = decide (F <= j /\ j < F + n) := by simp only [cd]; omega
   rw [e]; simp [hj]
  rw [aj hb, ih]
  by_cases hj : F + n = j
  ·subst hj;rw [show F + n - F = n by omega];simp [hb]
  have e : decide (F <= j /\ j < F + (n + 1)) = decide (F <= j /\ j < F + n) := by simp only [cd]; omega
  rw [e]
theorem Cj (l : List UInt8) {F B j : Nat} (h : j < F / 8) : ∀ n, (jy l F B n)[j]? = l[j]?
 | 0 => rfl
 | n + 1 => by
  rw [jy];split
  ·rw [Ck _ oM, Cj l h n]
  exact Cj l h n
theorem F5 (l : List UInt8) {F B j e : Nat} (he : e <= j) : ∀ n, (∀ k, k < n -> B.testBit k = true -> F + k < 8 * e) -> (jy l F B n)[j]? = l[j]?
 | 0, _ => rfl
 | n + 1, h => by
  have ih := F5 l (F := F) (B := B) he n fun k hk => h k oM
  rw [jy];split
  ·rename_i hb;have := h n oM hb;rw [Ck _ oM, ih]
  exact ih
def x5 (l : List UInt8) (i : Nat) : List UInt8 := (l.drop (512 * i)).take 512
theorem M9 {l : List UInt8} {i n : Nat} (h : l.length = 512 * n) (hi : i < n) : (x5 l i).length = 512 := by
 unfold x5;rw [fB, gT];have : 512 * (i + 1) <= 512 * n := Nat.mul_le_mul_left _ hi;omega
theorem M' {l : List UInt8} {i j : Nat} (hj : j < 4096) : sI (x5 l i) j = sI l (4096 * i + j) := by
 unfold sI x5;rw [lP, lP, Tt, ao oM, N3, show (4096 * i + j) / 8 = 512 * i + j / 8 by omega, show (4096 * i + j) % 8 = j % 8 by omega]
def nF (l : List UInt8) (b F B : Nat) : List UInt8 := jy l (4096 * b + F) B 32
theorem wX (l : List UInt8) (b F B : Nat) : (nF l b F B).length = l.length := se ..
theorem Lm {l : List UInt8} {b F B i : Nat} (xA : ∀ k, B.testBit k = true -> F + k < 4096) (hi : i ≠ b) : x5 (nF l b F B) i = x5 l i := by
 apply LF;intro j;unfold x5;rw [Tt, Tt];split
 ·rename_i hj;rw [N3, N3];unfold nF;rcases Nat.lt_or_gt_of_ne hi with h | h
  ·exact Cj l oM 32
  exact F5 l (e := 512 * (b + 1)) oM 32 fun k _ hk => by have := xA k hk; omega
 rfl
theorem Q1 {l : List UInt8} {b F B n : Nat} (hl : l.length = 512 * n) (hb : b < n) (hB : B ≠ 0) (h32 : B < 2 ^ 32) (xA : ∀ k, B.testBit k = true -> F + k < 4096)
  (h : nm ((x5 l b).drop 508) = (JR ((x5 l b).take 508)).toNat) : nm ((x5 (nF l b F B) b).drop 508) ≠ (JR ((x5 (nF l b F B) b).take 508)).toNat := by
 intro h';have l1 := M9 hl hb;have l2 := M9 (l := nF l b F B) (by rw [wX]; exact hl) hb;have e1 := Pq (l := x5 l b) oM (by rw [l1]; exact h);have e2 := Pq (l := x5 (nF l b F B) b) oM (by rw [l2]; exact h');refine abL (a := x5 l b) (b := x5 (nF l b F B) b) (F := F) (B := B) (by rw [l1, l2]) hB h32 (fun k hk => by rw [l1]; exact xA k hk) (fun i hi => ?_) (~~~ 0#32) (e1.trans e2.symm);rw [l1] at hi;rw [M' oM, M' oM];unfold nF;have P4 : 512 * (b + 1) <= 512 * n := Nat.mul_le_mul_left _ hb;rw [Jl (fun k _ hk => by have := xA k hk; omega)]
 congr 1
 rw [show 4096 * b + i - (4096 * b + F) = i - F by omega]
 by_cases h1 : F <= i
 ·by_cases h2 : i < F + 32
  ·rw [show decide (4096 * b + F <= 4096 * b + i /\ 4096 * b + i < 4096 * b + F + 32) = true by simp; omega, show decide (F <= i) = true by simp [h1]]
  have : B.testBit (i - F) = false := Wa (Rh h32 (N4 dM oM));rw [this]; simp
 rw [show decide (4096 * b + F <= 4096 * b + i /\ 4096 * b + i < 4096 * b + F + 32) = false by simp; omega, show decide (F <= i) = false by simp; omega]
section
variable {P : Program} {n : Nat} {ops : Array Oper} {dr : Bool} {done r : List Nat} {K : fm -> World -> Prop} {e : fm} {w : World} {i d : Nat} {t : TypeId} {p : String} {af : Array Edge} {g : Option (Nat × Bool)}
variable {s u : TypeId} {x y : Operand} {k k' : IntKind} {a b v : Int}
theorem Ev (ho : ops[i]? = some ⟨some d, .binOp .shr s x y u, t, p, af, g⟩) (hx : ev e x = some (.int k a)) (hy : ev e y = some (.int k' b)) (hb : 0 <= b) (hv : a.fdiv (2 ^ min b.toNat k.bits) = v)
  (h : XL P n ops dr (i :: done) r K ((d, .int k v) :: e) w) (hd : Nat.blt d n = true := by exact rfl) (hg : Gd ops e g := by first | trivial | exact ⟨_, rfl, rfl⟩) : XL P n ops dr done (i :: r) K e w :=
 iU (hd := hd) (hg := hg) ho (bk rfl) hx hy (fun w' => by rw [<-hv]; simp [ct, binOp, Op.shift, Int.not_lt.2 hb]) h
theorem Ir (ho : ops[i]? = some ⟨some d, .binOp .shl s x y u, t, p, af, g⟩) (hx : ev e x = some (.int k a)) (hy : ev e y = some (.int k' b)) (hb : 0 <= b) (hv : k.wrap (a * 2 ^ min b.toNat k.bits) = v)
  (h : XL P n ops dr (i :: done) r K ((d, .int k v) :: e) w) (hd : Nat.blt d n = true := by exact rfl) (hg : Gd ops e g := by first | trivial | exact ⟨_, rfl, rfl⟩) : XL P n ops dr done (i :: r) K e w :=
 iU (hd := hd) (hg := hg) ho (bk rfl) hx hy (fun w' => by rw [<-hv]; simp [ct, binOp, Op.shift, Int.not_lt.2 hb]) h
theorem Le (ho : ops[i]? = some ⟨some d, .unOp .xor s x, t, p, af, g⟩) (hx : ev e x = some (.int k a)) (hv : k.wrap (BitVec.ofInt k.bits (if k.signed then -1 else k.max) ^^^ BitVec.ofInt k.bits a).toNat = v)
  (h : XL P n ops dr (i :: done) r K ((d, .int k v) :: e) w) (hd : Nat.blt d n = true := by exact rfl) (hg : Gd ops e g := by first | trivial | exact ⟨_, rfl, rfl⟩) : XL P n ops dr done (i :: r) K e w :=
 dA ho (by simpa [cy] using hd) hg (ρ := rh e) (by intro z hZ; simp [Op.operands] at hZ; exact BP hx hZ) rfl (v := .int k v) (fun w' => by rw [<-hv]; simp [execOp, bj hx, Op.unary, Op.intBits]) h
theorem NH (ho : ops[i]? = some ⟨some d, .binOp .and s x y u, t, p, af, g⟩) (hx : ev e x = some (.int k a)) (hy : ev e y = some (.int k b)) (hv : k.wrap (BitVec.ofInt k.bits a &&& BitVec.ofInt k.bits b).toNat = v)
  (h : XL P n ops dr (i :: done) r K ((d, .int k v) :: e) w) (hd : Nat.blt d n = true := by exact rfl) (hg : Gd ops e g := by first | trivial | exact ⟨_, rfl, rfl⟩) : XL P n ops dr done (i :: r) K e w := aaY (hd := hd) (hg := hg) ho hx hy (by rw [hv]; exact h)
theorem Lc (ho : ops[i]? = some ⟨some d, .binOp .or s x y u, t, p, af, g⟩) (hx : ev e x = some (.int k a)) (hy : ev e y = some (.int k b)) (hv : k.wrap (BitVec.ofInt k.bits a ||| BitVec.ofInt k.bits b).toNat = v)
  (h : XL P n ops dr (i :: done) r K ((d, .int k v) :: e) w) (hd : Nat.blt d n = true := by exact rfl) (hg : Gd ops e g := by first | trivial | exact ⟨_, rfl, rfl⟩) : XL P n ops dr done (i :: r) K e w := abS (hd := hd) (hg := hg) ho hx hy (by rw [hv]; exact h)
theorem JI (ho : ops[i]? = some ⟨some d, .binOp .xor s x y u, t, p, af, g⟩) (hx : ev e x = some (.int k a)) (hy : ev e y = some (.int k b)) (hv : k.wrap (BitVec.ofInt k.bits a ^^^ BitVec.ofInt k.bits b).toNat = v)
  (h : XL P n ops dr (i :: done) r K ((d, .int k v) :: e) w) (hd : Nat.blt d n = true := by exact rfl) (hg : Gd ops e g := by first | trivial | exact ⟨_, rfl, rfl⟩) : XL P n ops dr done (i :: r) K e w := aaG (hd := hd) (hg := hg) ho hx hy (by rw [hv]; exact h)
theorem dd {D : TypeDesc} (ho : ops[i]? = some ⟨some d, .convert s u x, t, p, af, g⟩) (hk : dk P (.convert s u x) = 0) (hs : P.underlying s = some D) (hu : P.underlying u = some (.int k')) (hx : ev e x = some (.int k a)) (hv : k'.wrap a = v)
  (h : XL P n ops dr (i :: done) r K ((d, .int k' v) :: e) w) (hd : Nat.blt d n = true := by exact rfl) (hg : Gd ops e g := by first | trivial | exact ⟨_, rfl, rfl⟩) : XL P n ops dr done (i :: r) K e w := By (hd := hd) (hg := hg) ho hk hs hu hx (by rw [hv]; exact h)
end
abbrev u32 (w : qH) : Value := .int .u32 (w.toNat : Int)
theorem vz {m : Nat} (a : BitVec m) : BitVec.ofInt m (a.toNat : Int) = a := by rw [BitVec.ofInt_natCast, BitVec.ofNat_toNat, BitVec.setWidth_eq]
theorem w32 {n : Nat} (h : n < 4294967296) : IntKind.u32.wrap (n : Int) = n := by
 show (n : Int) % (2 ^ 32 : Int) = n
 omega
theorem Vf {n : Nat} (h : n < 18446744073709551616) : IntKind.u64.wrap (n : Int) = n := by
 show (n : Int) % (2 ^ 64 : Int) = n
 omega
theorem Pd (a b : qH) : IntKind.u32.wrap (BitVec.ofInt IntKind.u32.bits (a.toNat : Int) ^^^ BitVec.ofInt IntKind.u32.bits (b.toNat : Int)).toNat = ((a ^^^ b).toNat : Int) := by
 have : ∀ c : qH, IntKind.u32.wrap (c.toNat : Int) = c.toNat := fun c => w32 c.isLt
 show IntKind.u32.wrap ((BitVec.ofInt 32 (a.toNat : Int) ^^^ BitVec.ofInt 32 (b.toNat : Int)).toNat : Int) = _
 rw [vz, vz, this]
theorem abG (a : qH) : IntKind.u32.wrap (BitVec.ofInt IntKind.u32.bits (if IntKind.u32.signed then -1 else IntKind.u32.max) ^^^ BitVec.ofInt IntKind.u32.bits (a.toNat : Int)).toNat = ((~~~ a).toNat : Int) := by
 have h1 := Pd (~~~ 0#32) a;have h2 : (~~~ 0#32 : qH) ^^^ a = ~~~ a := by
  apply BitVec.eq_of_getLsbD_eq;intro i hi;rw [BitVec.getLsbD_xor, BitVec.getLsbD_not, BitVec.getLsbD_not];simp only [hi, decide_true, Bool.true_and];cases a.getLsbD i <;> simp
 rw [h2] at h1;exact h1
theorem Yd (a : qH) : ((a.toNat : Nat) : Int).fdiv (2 ^ min (4 : Int).toNat IntKind.u32.bits) = ((a >>> 4).toNat : Int) := by
 show ((a.toNat : Nat) : Int).fdiv ((16 : Nat) : Int) = _
 rw [BitVec.toNat_ushiftRight, Nat.shiftRight_eq_div_pow, Int.ofNat_fdiv]
theorem YQ (a : qH) : IntKind.u32.wrap (BitVec.ofInt IntKind.u32.bits (a.toNat : Int) &&& BitVec.ofInt IntKind.u32.bits 15).toNat = ((a &&& 15#32).toNat : Int) := by
 have : ∀ c : qH, IntKind.u32.wrap (c.toNat : Int) = c.toNat := fun c => w32 c.isLt
 show IntKind.u32.wrap ((BitVec.ofInt 32 (a.toNat : Int) &&& BitVec.ofInt 32 15).toNat : Int) = _
 rw [vz, show BitVec.ofInt 32 15 = 15#32 from rfl, this]
theorem G1 (a : qH) : (a &&& 15#32).toNat < 16 := by
 rw [BitVec.toNat_and];exact Nat.lt_of_le_of_lt Nat.and_le_right dM
theorem aao (x : UInt8) : IntKind.u32.wrap (x.toNat : Int) = ((BitVec.ofNat 32 x.toNat).toNat : Int) := by
 have h : x.toNat < 256 := x.toNat_lt;rw [w32 oM, BitVec.toNat_ofNat, LC oM]
theorem GP (x : UInt8) : IntKind.u64.wrap (x.toNat : Int) = (x.toNat : Int) := by
 have h : x.toNat < 256 := x.toNat_lt;exact Vf oM
theorem V2 (a : Nat) : ((a : Nat) : Int).fdiv (2 ^ min (8 : Int).toNat IntKind.u64.bits) = ((a / 256 : Nat) : Int) := by
 show ((a : Nat) : Int).fdiv ((256 : Nat) : Int) = _
 rw [Int.ofNat_fdiv]
theorem w16 {n : Nat} (h : n < 65536) : IntKind.u16.wrap (n : Int) = n := by
 show (n : Int) % (2 ^ 16 : Int) = n
 omega
theorem w8 {n : Nat} (h : n < 256) : IntKind.u8.wrap (n : Int) = n := by
 show (n : Int) % (2 ^ 8 : Int) = n
 omega
theorem TQ {x c k : Nat} (hk : k < 8) (hx : x < 2 ^ (8 * k)) (hc : c < 256) : IntKind.u64.wrap (BitVec.ofInt IntKind.u64.bits (x : Int) ||| BitVec.ofInt IntKind.u64.bits (IntKind.u64.wrap ((c : Int) * 2 ^ min (8 * k : Int).toNat IntKind.u64.bits))).toNat = ((x + c * 2 ^ (8 * k) : Nat) : Int) := by
 have h1 : 2 ^ (8 * k) * 256 <= 2 ^ 64 := by
  rw [show (256 : Nat) = 2 ^ 8 from rfl, <-Nat.pow_add];exact N4 dM oM
 have h2 : c * 2 ^ (8 * k) + x < 2 ^ 64 := by
  have : c * 2 ^ (8 * k) + 2 ^ (8 * k) <= 2 ^ (8 * k) * 256 := by
   rw [<-Nat.succ_mul, Nat.mul_comm]; exact Nat.mul_le_mul_left _ hc
  omega
 have e1 : min (8 * (k : Int)).toNat IntKind.u64.bits = 8 * k := by show min _ 64 = _; omega
 rw [e1];have e2 : ((c : Int) * 2 ^ (8 * k)) = ((c * 2 ^ (8 * k) : Nat) : Int) := by push_cast; rfl
 have h3 : c * 2 ^ (8 * k) < 18446744073709551616 := oM;have e4 : IntKind.u64.wrap ((c * 2 ^ (8 * k) : Nat) : Int) = ((c * 2 ^ (8 * k) : Nat) : Int) := Vf h3;rw [e2, e4]
 show IntKind.u64.wrap ((BitVec.ofInt 64 (x : Int) ||| BitVec.ofInt 64 ((c * 2 ^ (8 * k) : Nat) : Int)).toNat : Int) = _
 rw [BitVec.ofInt_natCast, BitVec.ofInt_natCast, BitVec.toNat_or, BitVec.toNat_ofNat, BitVec.toNat_ofNat, LC (show x < 2 ^ 64 by omega), LC (show c * 2 ^ (8 * k) < 2 ^ 64 by omega)];have e3 : x ||| c * 2 ^ (8 * k) = x + c * 2 ^ (8 * k) := by
  have := Nat.two_pow_add_eq_or_of_lt hx c;rw [Nat.or_comm, Nat.mul_comm c, <-this, Nat.add_comm]
 rw [e3];exact Vf oM
theorem rW (x : UInt8) : ∀ l : List UInt8, nm (l ++ [x]) = nm l + x.toNat * 2 ^ (8 * l.length)
 | [] => by simp [nm]
 | y :: l => by
  simp only [iC, nm, rW x l, g5];rw [show 8 * (l.length + 1) = 8 * l.length + 8 by omega, Nat.pow_add, Nat.mul_add];have : 256 * (x.toNat * 2 ^ (8 * l.length)) = x.toNat * (2 ^ (8 * l.length) * 2 ^ 8) := by
   rw [show (256 : Nat) = 2 ^ 8 from rfl, Nat.mul_left_comm, Nat.mul_comm (2 ^ 8)]
  omega
section
variable {P : Program} {n : Nat} {ops : Array Oper} {dr : Bool} {done r : List Nat} {K : fm -> World -> Prop} {e : fm} {w : World} {i d : Nat} {t s : TypeId} {p : String} {af : Array Edge} {g : Option (Nat × Bool)} {x y : Operand}
variable {G : Gh} {L R : List aw} {c : TypeId} {q : Option Addr} {len cap : Nat} {b : bW} {w0 : World}
theorem dP.inv (h : dP (.slice q len cap) b w0) : len = b.length /\ b.length <= cap /\ ((cap = 0 /\ b = []) \/ ∃ bb o, q = some ⟨bb, o, none⟩) := by
 rcases h with ⟨⟨a, h1⟩, rfl⟩ | ⟨bb, o, c, h1, h2, h3⟩
 ·cases h1; exact ⟨rfl, g8 _, .inl ⟨rfl, rfl⟩⟩
 cases h1; exact ⟨rfl, h2, .inr ⟨bb, o, rfl⟩⟩
def Dh (v : Value) : Prop := ∀ q m c, v = .slice q m c -> ∀ a, q = some a -> a.spot = none
theorem JL {lo : Int} {kl : IntKind} {l : Operand} (ho : ops[i]? = some ⟨some d, .slice s x (some l) none none, t, p, af, g⟩) (hs : P.underlying s = some (.slice c)) (hz : (P.info? c).map (·.size) = some 1)
  (hx : ev e x = some (.slice q len cap)) (hl : ev e l = some (.int kl lo)) (hk : dP (.slice q len cap) b w0) (hb : 0 <= lo /\ lo <= b.length)
  (h : ∀ v', (∀ w, dP (.slice q len cap) b w -> dP v' (b.drop lo.toNat) w) -> (Dh (.slice q len cap) -> Dh v') -> XL P n ops dr (i :: done) r K ((d, v') :: e) w) (hd : Nat.blt d n = true := by exact rfl) (hg : Gd ops e g := by first | trivial | exact ⟨_, rfl, rfl⟩) : XL P n ops dr done (i :: r) K e w := by
 obtain ⟨h1, h2, h3⟩ := hk.inv;subst h1;refine JK (hd := hd) (hg := hg) ho hs hz hx hl hb h2 (fun h4 => ?_) (fun v' h5 h6 => h v' (fun w hw => ?_) (fun hp => ?_))
 ·rcases h3 with ⟨rfl, rfl⟩ | h3
  ·have := hb.1; simp at h4; omega
  exact h3
 ·obtain ⟨-, -, h7⟩ := hw.inv
  by_cases h8 : lo = cap
  ·rw [h6 h8];refine .inl ⟨⟨_, rfl⟩, vm oM⟩
  rcases h7 with ⟨rfl, rfl⟩ | ⟨bb, o, rfl⟩
  ·simp at hb; omega
  rw [h5 _ _ rfl oM];refine .inr ⟨bb, o + lo.toNat, cap - lo.toNat, by rw [gT, EV], by rw [gT]; omega, ?_⟩;exact hw.rdd lo.toNat
 by_cases h8 : lo = cap
 ·rw [h6 h8];intro q' m' c' h9 a ha;cases h9;exact hp _ _ _ rfl a ha
 rcases h3 with ⟨rfl, rfl⟩ | ⟨bb, o, rfl⟩
 ·simp at hb; omega
 rw [h5 _ _ rfl oM];intro q' m' c' h9 a ha;cases h9; cases ha; rfl
theorem dP.hi (hw : dP (.slice q len cap) b w0) {k cap' : Nat} (h1 : k <= b.length) (h2 : k <= cap') (h3 : cap' <= cap) : dP (.slice q k cap') (b.take k) w0 := by
 rcases hw with ⟨⟨a, e1⟩, rfl⟩ | ⟨bb, o, c, e1, e2, e3⟩
 ·cases e1;have : k = 0 := by simpa using h1
  subst this;have : cap' = 0 := oM;subst this;exact .inl ⟨⟨_, rfl⟩, by simp⟩
 cases e1;refine .inr ⟨bb, o, cap', by rw [fB, EW h1], by rw [fB]; omega, ?_⟩;rw [wO]; exact e3.take k
theorem D' {hi : Int} {kh : IntKind} {h' : Operand} (ho : ops[i]? = some ⟨some d, .slice s x none (some h') none, t, p, af, g⟩) (hs : P.underlying s = some (.slice c)) (hz : (P.info? c).map (·.size) = some 1)
  (hx : ev e x = some (.slice q len cap)) (hh : ev e h' = some (.int kh hi)) (hk : dP (.slice q len cap) b w0) (hb : 0 <= hi /\ hi <= b.length) (hq : ∀ a, q = some a -> a.spot = none)
  (h : ∀ v', v' = .slice q hi.toNat cap -> (∀ w, dP (.slice q len cap) b w -> dP v' (b.take hi.toNat) w) -> XL P n ops dr (i :: done) r K ((d, v') :: e) w) (hd : Nat.blt d n = true := by exact rfl) (hg : Gd ops e g := by first | trivial | exact ⟨_, rfl, rfl⟩) : XL P n ops dr done (i :: r) K e w := by
 obtain ⟨h1, h2, -⟩ := hk.inv;exact u1 (hd := hd) (hg := hg) ho hs (by rw [hz]; rfl) hx hq hh ⟨hb.1, oM⟩ (h _ rfl fun w hw => hw.hi oM oM (g8 _))
theorem dP.spot {b : bW} (hk : dP (.slice q len cap) b w0) (hn : 0 < cap) : ∀ a, q = some a -> a.spot = none := fun a ha => by
 obtain ⟨-, -, ⟨h1, -⟩ | ⟨bb, o, h1⟩⟩ := hk.inv
 ·omega
 rw [h1] at ha; cases ha; rfl
theorem Y2 {bb o : Nat} {lo hi mx : Int} {kl kh km : IntKind} {l h' m' : Operand} (ho : ops[i]? = some ⟨some d, .slice s x (some l) (some h') (some m'), t, p, af, g⟩) (hs : P.underlying s = some (.slice c)) (hz : (P.info? c).map (·.size) = some 1)
  (hx : ev e x = some (.slice (some ⟨bb, o, none⟩) len cap)) (hl : ev e l = some (.int kl lo)) (hh : ev e h' = some (.int kh hi)) (hm : ev e m' = some (.int km mx)) (hb : 0 <= lo /\ lo <= hi /\ hi <= mx /\ mx <= cap)
  (h : XL P n ops dr (i :: done) r K ((d, if mx = lo then .slice (some ⟨bb, o, none⟩) 0 0 else .slice (some ⟨bb, o + lo.toNat, none⟩) (hi.toNat - lo.toNat) (mx.toNat - lo.toNat)) :: e) w) (hd : Nat.blt d n = true := by exact rfl) (hg : Gd ops e g := by first | trivial | exact ⟨_, rfl, rfl⟩) : XL P n ops dr done (i :: r) K e w :=
 dA ho (by simpa [cy] using hd) hg (ρ := rh e) (by
  intro z hZ; simp [Op.operands] at hZ;rcases hZ with rfl | rfl | rfl | rfl
  ·exact JU hx
  ·exact JU hl
  ·exact JU hh
  ·exact JU hm) rfl
  (v := if mx = lo then .slice (some ⟨bb, o, none⟩) 0 0 else .slice (some ⟨bb, o + lo.toNat, none⟩) (hi.toNat - lo.toNat) (mx.toNat - lo.toNat)) (fun w' => by
   cases tX : P.info? c with
   | none => simp [tX] at hz
   | some inf =>
    have ed : inf.size = 1 := by simpa [tX] using hz
    have h1 := jk (P := P) (k := km) (v := mx) (y := cap) (c := .slice3Acap) ⟨oM, hb.2.2.2⟩ w';have h2 := jk (P := P) (k := kh) (v := hi) (y := mx.toNat) (c := .slice3B) ⟨oM, oM⟩ w';have h3 := jk (P := P) (k := kl) (v := lo) (y := hi.toNat) (c := .slice3C) ⟨oM, oM⟩ w'
    by_cases qF : mx = lo
    ·have Yv : mx.toNat = lo.toNat := by rw [qF]
     have hn3 : hi.toNat = lo.toNat := oM;rw [ao qF];rw [Yv] at h2; rw [hn3] at h3
     simp [execOp, bj hx, bj hh, bj hm, bj hl, Instr.sliceAt, Instr.slice, Instr.sliceBounds, run_underlying hs, h1, h2, h3, sizeOf, typeInfo, tX, ed, Yv, hn3, fX]
    ·have Yv : ¬ mx.toNat = lo.toNat := oM;rw [aj qF];simp [execOp, bj hx, bj hh, bj hm, bj hl, Instr.sliceAt, Instr.slice, Instr.sliceBounds, run_underlying hs, h1, h2, h3, sizeOf, typeInfo, tX, ed, Yv, fX]) h
theorem dP.Hz {bb o : Nat} (hw : dP (.slice (some ⟨bb, o, none⟩) len cap) b w0) {lo hi : Int} (h1 : 0 <= lo /\ lo <= hi /\ hi <= b.length) : dP (if hi = lo then .slice (some ⟨bb, o, none⟩) 0 0 else .slice (some ⟨bb, o + lo.toNat, none⟩) (hi.toNat - lo.toNat) (hi.toNat - lo.toNat)) ((b.drop lo.toNat).take (hi - lo).toNat) w0 := by
 by_cases h : hi = lo
 ·rw [ao h];exact .inl ⟨⟨_, rfl⟩, by rw [show (hi - lo).toNat = 0 by omega]; simp⟩
 rw [aj h];have hl : ((b.drop lo.toNat).take (hi - lo).toNat).length = hi.toNat - lo.toNat := by rw [fB, gT]; omega
 obtain ⟨h2, -, -⟩ := hw.inv;subst h2;refine .inr ⟨bb, o + lo.toNat, hi.toNat - lo.toNat, by rw [hl], by rw [hl]; exact g8 _, ?_⟩;rw [wO];exact (hw.rdd lo.toNat).take _
theorem Dh.row {T z m : Nat} {v : Value} {xs : List Value} {G : Gh} {L : List aw} {w : World} (hw : an G (row T z v m xs :: L) w) : Dh v := by
 obtain ⟨hl, h | ⟨b, cap, cur, rfl, h1, h2, h3, h4⟩⟩ := lX hw
 ·obtain ⟨rfl, _⟩ := h;intro q' m' c' h9 a ha;cases h9; cases ha
 intro q' m' c' h9 a ha;cases h9; cases ha; rfl
theorem NG {m : Nat} {v u : Value} {xs : List Value} {b : bW} (ho : ops[i]? = some ⟨some d, .call ⟨.builtin .append, #[x, y], #[s, s]⟩, t, p, af, g⟩) (hs : P.underlying s = some (.slice c)) (uS : (P.info? c).map (·.size) = some 1)
  (W4 : (P.info? c).map (·.bytes) = some 1) (yj : (bD P c).map (·.size) = some 1) (hx : ev e x = some v) (hy : ev e y = some u) (hw : an G L w) (hp : cG (row c 1 v m xs) L R) (hr : dP u b w)
  (P5 : m + b.length <= 140737488355328) (i' : gU P ops dr done i = [])
  (h : ∀ w' v', an G (row c 1 v' (m + b.length) (xs ++ cD b) :: R) w' -> XL P n ops dr (i :: done) r K ((d, v') :: e) w') (hd : Nat.blt d n = true := by exact rfl) (hg : Gd ops e g := by first | trivial | exact ⟨_, rfl, rfl⟩) : XL P n ops dr done (i :: r) K e w := by
 have hl : ((cD b).map fun v => [v]).length = b.length := by rw [bX, cN]
 have hf : ((cD b).map fun v => [v]).flatten = cD b := by
  induction cD b with
  | nil => rfl
  | cons a l ih => rw [cH, EY, ih]; rfl
 refine Bz (m := m) (rs := (cD b).map fun v => [v]) (hd := hd) (hg := hg) ho hs uS W4 yj hx hy hw hp ?_ (by rw [hf]; exact ig b) (by rw [hl]; simp only [maxLen]; omega) (by rw [hl]; omega) i' (fun w' v' h' => h w' v' (by rw [hl, hf] at h'; exact h'));rcases hr with ⟨⟨a, rfl⟩, rfl⟩ | ⟨bb, o, cap, rfl, h1, h2⟩
 ·exact .inl ⟨a, rfl, fun _ _ => rfl, rfl⟩
 refine .inr ⟨bb, o, cap, by rw [hl], by rw [hl]; exact h1, fun r hr => ?_, by rw [hf]; exact h2⟩;obtain ⟨v, -, rfl⟩ := dE.1 hr; rfl
end
section
variable {P : Program} {n : Nat} {ops : Array Oper} {dr : Bool} {done r : List Nat} {K : fm -> World -> Prop} {e : fm} {w : World} {i d : Nat} {t : TypeId} {p : String} {af : Array Edge} {g : Option (Nat × Bool)}
variable {s u : TypeId} {x y : Operand} {T : TypeId} {v z : Value} {D : TypeDesc}
def PM (P : Program) (t : TypeId) : Bool := match P.underlying t with | some (.interface _) => true | _ => false
theorem Mg {t : TypeId} (h : PM P t = true) : ∃ ms, P.underlying t = some (.interface ms) := by
 unfold PM at h;split at h
 ·rename_i ms h1; exact ⟨ms, h1⟩
 cases h
theorem aaH (ho : ops[i]? = some ⟨some d, .typeAssert x s u true, t, p, af, g⟩) (hu : P.underlying u = some D) (hD : ∀ ms, D ≠ .interface ms) (hx : ev e x = some (.iface u v))
  (h : XL P n ops dr (i :: done) r K ((d, .tuple #[v, .bool true]) :: e) w) (hd : Nat.blt d n = true := by exact rfl) (hg : Gd ops e g := by first | trivial | exact ⟨_, rfl, rfl⟩) : XL P n ops dr done (i :: r) K e w :=
 dA ho (by simpa [cy] using hd) hg (ρ := rh e) (by intro z hZ; simp [Op.operands] at hZ; exact BP hx hZ) rfl (v := .tuple #[v, .bool true]) (fun w' => by
  simp only [execOp, bj hx, Instr.typeAssert, Sem.run_bind, run_underlying hu, Result.andThen_ok];cases D <;> first | simp | exact absurd rfl (hD _)) h
theorem Lb (ho : ops[i]? = some ⟨some d, .typeAssert x s u true, t, p, af, g⟩) (hu : P.underlying u = some D) (hz : (P.info? u).bind (·.zero) = some z) (hx : ev e x = some .nilIface)
  (h : XL P n ops dr (i :: done) r K ((d, .tuple #[z, .bool false]) :: e) w) (hd : Nat.blt d n = true := by exact rfl) (hg : Gd ops e g := by first | trivial | exact ⟨_, rfl, rfl⟩) : XL P n ops dr done (i :: r) K e w :=
 dA ho (by simpa [cy] using hd) hg (ρ := rh e) (by intro z hZ; simp [Op.operands] at hZ; exact BP hx hZ) rfl (v := .tuple #[z, .bool false]) (fun w' => by
  have hzv : (zeroValue u).run P w' = .ok z w' := by
   cases hi : P.info? u with
   | none => simp [hi] at hz
   | some inf =>
    have qw : inf.zero = some z := by simpa [hi] using hz
    simp [zeroValue, typeInfo, hi, qw]
  simp only [execOp, bj hx, Instr.typeAssert, Sem.run_bind, run_underlying hu, Result.andThen_ok];cases D <;> simp [hzv]) h
theorem LZ {op : BinOp} {ms : Array (String × TypeId)} (hs : P.underlying s = some (.interface ms)) : dk P (.binOp op s x (.const .nilIface) u) = 0 := by
 unfold dk;cases op <;> simp [hs, Region.isConst]
theorem IJ {ms : Array (String × TypeId)} (hs : P.underlying s = some (.interface ms)) (w : World) : (Op.equal s .nilIface .nilIface).run P w = .ok true w /\ ∀ T v, (Op.equal s (.iface T v) .nilIface).run P w = .ok false w := by
 refine ⟨?_, fun T v => ?_⟩ <;> (unfold Op.equal; show Sem.run P (Op.equalIn (9999 + 1) s _ _) w = _; rw [Op.equalIn, Sem.run_bind, run_underlying hs, Result.andThen_ok]; rfl)
theorem Ac {op : BinOp} {ms : Array (String × TypeId)} {v : Value} (hs : P.underlying s = some (.interface ms)) (w : World) : (eqGuard op s x (.const .nilIface) v .nilIface).run P w = .ok () w := by
 unfold eqGuard;cases op <;> first | rfl | (cases v <;> first | rfl | simp)
theorem uY {ms : Array (String × TypeId)} (ho : ops[i]? = some ⟨some d, .binOp .neq s x (.const .nilIface) u, t, p, af, g⟩) (hs : P.underlying s = some (.interface ms)) (hx : ev e x = some .nilIface)
  (h : XL P n ops dr (i :: done) r K ((d, .bool false) :: e) w) (hd : Nat.blt d n = true := by exact rfl) (hg : Gd ops e g := by first | trivial | exact ⟨_, rfl, rfl⟩) : XL P n ops dr done (i :: r) K e w :=
 iU (hd := hd) (hg := hg) ho (LZ hs) hx rfl (fun w' => by simp only [Sem.run_bind, Ac hs, Result.andThen_ok, binOp, (IJ hs w').1]; rfl) h
theorem YY {ms : Array (String × TypeId)} (ho : ops[i]? = some ⟨some d, .binOp .neq s x (.const .nilIface) u, t, p, af, g⟩) (hs : P.underlying s = some (.interface ms)) (hx : ev e x = some (.iface T v))
  (h : XL P n ops dr (i :: done) r K ((d, .bool true) :: e) w) (hd : Nat.blt d n = true := by exact rfl) (hg : Gd ops e g := by first | trivial | exact ⟨_, rfl, rfl⟩) : XL P n ops dr done (i :: r) K e w :=
 iU (hd := hd) (hg := hg) ho (LZ hs) hx rfl (fun w' => by simp only [Sem.run_bind, Ac hs, Result.andThen_ok, binOp, (IJ hs w').2]; rfl) h
end
def iS (q : Nat) (b : bW) (er : Int) : aw := ex fun x : Value × Value × bW => lZ (aG [row 5 1 x.2.1 x.2.2.length (cD x.2.2)] (dP x.1 b) /\ Dh x.1) (aV [ah q [x.1, iQ er] 399, row 5 1 x.2.1 x.2.2.length (cD x.2.2)])
section
variable {G : Gh} {L R : List aw} {w : World} {q : Nat} {b : bW} {er : Int}
theorem lV (hw : an G (iS q b er :: R) w) : ∃ v v0 b0, (∀ M, aG (row 5 1 v0 b0.length (cD b0) :: M) (dP v b)) /\ Dh v /\ an G (ah q [v, iQ er] 399 :: row 5 1 v0 b0.length (cD b0) :: R) w := by
 obtain ⟨x, h⟩ := hw.fD;obtain ⟨⟨h1, h2⟩, h⟩ := h.eE;exact ⟨x.1, x.2.1, x.2.2, fun M => h1.head M, h2, h.cF⟩
theorem lU {v v0 : Value} {b0 : bW} (h1 : ∀ M, aG (row 5 1 v0 b0.length (cD b0) :: M) (dP v b)) (h2 : Dh v) (hw : an G (ah q [v, iQ er] 399 :: row 5 1 v0 b0.length (cD b0) :: R) w) : an G (iS q b er :: R) w :=
 an.gh (v, v0, b0) (an.fJ ⟨h1 [], h2⟩ (an.bz (M := [ah q [v, iQ er] 399, row 5 1 v0 b0.length (cD b0)]) hw))
theorem tm {x : Prop} [Decidable x] {er : Int} (hx : x) (hw : an G L w) : Calls prog 300 #[.bool (decide x), iQ er] w (bU fun r w' => r = .tuple #[] /\ an G L w') := by
 refine ad (args := [_, _]) func300 rfl ntmps300 rfl rfl ?_;refine z3 ?_;refine fo rfl rfl ?_;refine aC ?_;refine aE rfl (fun h1 => ?_) fun h1 => ?_
 ·
  exact absurd hx h1
 refine dS ?_;exact kC rfl rfl ⟨rfl, hw⟩
theorem qV {v : Value} (hw : an G L w) (kl : aG L (dP v b)) (hl : b.length <= 1000000000000) : Calls prog 228 #[v] w (bU fun r w' => ∃ q, r = pQ q /\ an G (iS q b 0 :: L) w') := by
 have Vs := kl.at hw;have hw := bI hw 5 1;refine ad (args := [_]) func228 rfl ntmps228 rfl rfl ?_;refine z7 ?_;refine NG (m := 0) (xs := []) (b := b) rfl aI bh gB fP rfl rfl hw pK Vs oM rfl fun w v4 hw => ?_;rw [pY, ie] at hw
 obtain ⟨a4, c4, rfl⟩ := ((dP.row.head L).at hw).form;refine aO (v := .agg #[.slice a4 b.length c4, iQ 0]) rfl rfl (fun w => kR) ?_;refine a9 rfl rfl rfl hw rfl fun w b6 hw => ?_;refine z3 ?_;exact aK rfl rfl rfl ⟨b6, rfl, lU (b0 := b) (fun M => dP.row.head M) (Dh.row (hw.b [row 5 1 _ _ _])) (hw.b [ah b6 _ _, row 5 1 _ _ _])⟩
theorem fR {n : Nat} (hw : an G (iS q b er :: L) w) (hn : n <= b.length) (hl : b.length <= 1000000000000) : Calls prog 286 #[pQ q, iQ n] w (bU fun r w' => an G (iS q (b.drop n) er :: row 5 1 r n (cD (b.take n)) :: L) w') := by
 obtain ⟨v, v0, b0, kv, hp, hw⟩ := lV hw;obtain ⟨a, cap, rfl⟩ := (((kv L).of sF).at hw).form;refine ad (args := [_, _]) func286 rfl ntmps286 rfl rfl ?_;refine z8 ?_;refine al rfl nu rfl (tm oM hw) rfl fun w v8 hv => ?_;obtain ⟨rfl, hw⟩ := hv;refine z7 ?_;refine lD (v := .slice a b.length cap) au hw ?_;refine z2 ?_;refine al rfl nu rfl (tm oM hw) rfl fun w v16 hv => ?_;obtain ⟨rfl, hw⟩ := hv;refine z6 ?_;refine lD (v := .slice a b.length cap) au hw ?_;refine z1 ?_;refine D' (b := b) rfl aI bh rfl rfl (((kv L).of sF).at hw) ⟨oM, oM⟩ (hp _ _ _ rfl) fun VY e22 h22 => ?_;rw [ez] at h22;have hw := bI hw 5 1;refine NG (m := 0) (xs := []) (b := b.take n) rfl aI bh gB fP rfl rfl hw pK (h22 _ (((kv L).of sF).at hw)) (by rw [fB]; omega) rfl (fun w v23 hw => ?_);rw [pY, ie, fB, EW hn] at hw
 refine z8 ?_;refine lD (v := .slice a b.length cap) au hw ?_;refine z1 ?_;refine JL (b := b) rfl aI bh rfl rfl ((kv _).at (hw.b [row 5 1 v0 _ _])) ⟨oM, oM⟩ fun v30 h30 p30 => ?_;rw [ez] at h30;have acS : v30.oneCell' = true := by
  rcases h30 w ((kv _).at (hw.b [row 5 1 v0 _ _])) with ⟨⟨x, rfl⟩, -⟩ | ⟨x, y, z, rfl, -⟩ <;> rfl
 refine z2 ?_;refine bu (l' := [v30, iQ er]) rfl tV rfl rfl au acS hw pK rfl rfl rfl fun w hw => ?_;refine z7 ?_;exact aK rfl rfl rfl (lU (fun M => (kv M).mono h30) (p30 hp) (hw.b [ah q _ _, row 5 1 v0 _ _, row 5 1 v23 _ _]))
theorem Iy : ∀ j, j <= 1 -> (0 < 255 / 256 ^ j ↔ j < 1) := by decide
theorem xD (hw : an G L w) : Calls prog 291 #[] w (bU fun r w' => r = iQ 1 /\ an G L w') := by
 refine ad (args := []) func291 rfl ntmps291 rfl rfl ?_;refine Ht ?_;refine dd (v := 0) rfl kR cP iN rfl dM ?_;refine Le (v := 255) rfl rfl dM ?_;refine dd (v := 255) rfl kR iN du rfl dM ?_;refine z3 ?_;refine bF (fun m e w => ∃ j : Nat, j <= 1 /\ m = 1 - j /\ e = [(1, iQ j), (2, .int .u64 ((255 / 256 ^ j : Nat) : Int))] /\ an G L w)
  (m := 1) sB
  ⟨0, dy _, rfl, rfl, hw⟩ ?_
 rintro m e w ⟨j, hj, rfl, rfl, hw⟩;refine z6 ?_;refine aE rfl (fun h1 => ?_) fun h1 => ?_
 ·
  have Jh := (Iy j hj).1 oM;refine mN ?_;refine Ev (v := ((255 / 256 ^ (j + 1) : Nat) : Int)) rfl rfl rfl dM (by rw [V2, V9, <-Nat.pow_succ]) ?_;refine z2 ?_;exact ⟨1 - (j + 1), oM, [(1, iQ (j + 1 : Nat)), (2, _)], sB, j + 1, oM, rfl, rfl, hw⟩
 have Jh : j = 1 := by
  have h2 := (Iy j hj).2;refine qA fun hn => ?_
  have := h2 oM;omega
 subst Jh;refine z7 ?_;exact aK rfl rfl rfl ⟨rfl, hw⟩
theorem xH {p : Nat} (hw : an G (iS q b 0 :: ah p [pQ q] 338 :: L) w) (hn : 1 <= b.length) (hl : b.length <= 1000000000000) :
  Calls prog 290 #[pQ p] w (bU fun r w' => r = .int .u8 ((nm (b.take 1) : Nat) : Int) /\ an G (iS q (b.drop 1) 0 :: ah p [pQ q] 338 :: L) w') := by
 have mF : (b.take 1).length = 1 := by rw [fB]; omega
 refine ad (args := [_]) func290 rfl ntmps290 rfl rfl ?_;refine z5 ?_;refine bd [0, 1, 2, 3] bJ kR ?_;replace hw := hw.drawn (w.drawn + 1);refine lD aU hw ?_;refine dJ rfl wy rfl (xD hw) (fun w v6 hv q' hq => ?_) fun w v6 hv => ?_
 ·
  obtain ⟨rfl, hw⟩ := hv;have hq := bm (l := [0]) kR hq;simp only [bQ, dz, or_false] at hq;subst hq;exact bx rfl rfl rfl (ar.bL aU hw pK rfl)
 obtain ⟨rfl, hw⟩ := hv;refine al rfl fE rfl (fR (n := 1) hw hn hl) kR fun w v7 hv => ?_;have hw := hv;obtain ⟨o, ho⟩ : ∃ o, o = b.take 1 := ⟨_, rfl⟩;rw [<-ho] at hw mF ⊢;have UC : ∀ M, aG (row 5 1 v7 1 (cD o) :: M) (dP v7 o) := fun M => by have h := (dP.row (T := 5) (v := v7) (l := o)).head M; rw [mF] at h; exact h
 obtain ⟨a7, c7, e7⟩ := (((UC _).of (L' := row 5 1 v7 1 (cD o) :: iS q (b.drop 1) 0 :: ah p [pQ q] 338 :: L) sF).at (hw.b [row 5 1 v7 _ _])).form;rw [mF] at e7;subst e7;refine SM ?_;refine bF (fun m e w => ∃ k : Nat, k <= 1 /\ m = 1 - k /\ e = [(2, .slice a7 1 c7), (3, .int .u64 ((nm (o.take k) : Nat) : Int)), (8, .slice a7 1 c7), (9, iQ (1 : Nat)), (10, iQ k)] /\ an G (row 5 1 (.slice a7 1 c7) 1 (cD o) :: iS q (b.drop 1) 0 :: ah p [pQ q] 338 :: L) w)
  (m := 1) sB
  ⟨0, dy _, rfl, rfl, hw.b [row 5 1 _ _ _]⟩ ?_
 rintro m e w ⟨k, hk, rfl, rfl, hw⟩;refine z5 ?_;refine aE rfl (fun h1 => ?_) fun h1 => ?_
 ·
  have gK : k < 1 := oM;have RU : k < 8 := oM;have iv := (UC _).at hw;have y6 := iv;rw [show (1 : Nat) = o.length from mF.symm] at y6
  obtain ⟨bb, oo, rfl⟩ := y6.nn oM;obtain ⟨x, hx⟩ : ∃ x, x = o.getD k 0 := ⟨_, rfl⟩;refine yb ?_;refine cR rfl aI bh rfl rfl ⟨oM, oM⟩ ?_;refine bt rfl rfl (ar.one (v := bv x) eC (by have h := y6.at (i := (k : Int)) ⟨oM, oM⟩; rw [hx]; exact h)) ?_;refine dd (v := (x.toNat : Int)) rfl kR iN du rfl (GP x) ?_;refine z1 ?_;refine jH rfl rfl rfl oM ?_;refine Ir (v := IntKind.u64.wrap ((x.toNat : Int) * 2 ^ min (8 * (k : Int)).toNat IntKind.u64.bits)) rfl rfl rfl oM rfl ?_;refine Lc (v := ((nm (o.take (k + 1)) : Nat) : Int)) rfl rfl rfl (by
   have iy := oI (o.take k);have K1 : (o.take k).length = k := by rw [fB]; omega
   rw [K1] at iy;rw [TQ RU iy x.toNat_lt, eO o k 0 oM, rW, K1, hx]) ?_
  refine z6 ?_;exact ⟨1 - (k + 1), oM, [(2, _), (3, _), (8, _), (9, _), (10, iQ (k + 1 : Nat))], sB, k + 1, oM, rfl, rfl, hw⟩
 have pA : k = 1 := oM;subst pA;have Z0 : o.take 1 = o := oF oM;rw [Z0];refine z4 ?_;refine dd (v := ((nm o : Nat) : Int)) rfl kR du iN rfl (w8 (by have := oI o; rw [mF] at this; exact this)) ?_;refine z3 ?_;exact aK rfl rfl rfl ⟨rfl, hw.tail⟩
theorem EC : ∀ j, j <= 2 -> (0 < 65535 / 256 ^ j ↔ j < 2) := by decide
theorem vS (hw : an G L w) : Calls prog 297 #[] w (bU fun r w' => r = iQ 2 /\ an G L w') := by
 refine ad (args := []) func297 rfl ntmps297 rfl rfl ?_;refine Ht ?_;refine dd (v := 0) rfl kR cP Bm rfl dM ?_;refine Le (v := 65535) rfl rfl dM ?_;refine dd (v := 65535) rfl kR Bm du rfl dM ?_;refine z3 ?_;refine bF (fun m e w => ∃ j : Nat, j <= 2 /\ m = 2 - j /\ e = [(1, iQ j), (2, .int .u64 ((65535 / 256 ^ j : Nat) : Int))] /\ an G L w)
  (m := 2) sB
  ⟨0, dy _, rfl, rfl, hw⟩ ?_
 rintro m e w ⟨j, hj, rfl, rfl, hw⟩;refine z6 ?_;refine aE rfl (fun h1 => ?_) fun h1 => ?_
 ·
  have Jh := (EC j hj).1 oM;refine mN ?_;refine Ev (v := ((65535 / 256 ^ (j + 1) : Nat) : Int)) rfl rfl rfl dM (by rw [V2, V9, <-Nat.pow_succ]) ?_;refine z2 ?_;exact ⟨2 - (j + 1), oM, [(1, iQ (j + 1 : Nat)), (2, _)], sB, j + 1, oM, rfl, rfl, hw⟩
 have Jh : j = 2 := by
  have h2 := (EC j hj).2;refine qA fun hn => ?_
  have := h2 oM;omega
 subst Jh;refine z7 ?_;exact aK rfl rfl rfl ⟨rfl, hw⟩
theorem vW {p : Nat} (hw : an G (iS q b 0 :: ah p [pQ q] 338 :: L) w) (hn : 2 <= b.length) (hl : b.length <= 1000000000000) :
  Calls prog 296 #[pQ p] w (bU fun r w' => r = .int .u16 ((nm (b.take 2) : Nat) : Int) /\ an G (iS q (b.drop 2) 0 :: ah p [pQ q] 338 :: L) w') := by
 have mF : (b.take 2).length = 2 := by rw [fB]; omega
 refine ad (args := [_]) func296 rfl ntmps296 rfl rfl ?_;refine z5 ?_;refine bd [0, 1, 2, 3] bJ kR ?_;replace hw := hw.drawn (w.drawn + 1);refine lD aU hw ?_;refine dJ rfl uF rfl (vS hw) (fun w v6 hv q' hq => ?_) fun w v6 hv => ?_
 ·
  obtain ⟨rfl, hw⟩ := hv;have hq := bm (l := [0]) kR hq;simp only [bQ, dz, or_false] at hq;subst hq;exact bx rfl rfl rfl (ar.bL aU hw pK rfl)
 obtain ⟨rfl, hw⟩ := hv;refine al rfl fE rfl (fR (n := 2) hw hn hl) kR fun w v7 hv => ?_;have hw := hv;obtain ⟨o, ho⟩ : ∃ o, o = b.take 2 := ⟨_, rfl⟩;rw [<-ho] at hw mF ⊢;have UC : ∀ M, aG (row 5 1 v7 2 (cD o) :: M) (dP v7 o) := fun M => by have h := (dP.row (T := 5) (v := v7) (l := o)).head M; rw [mF] at h; exact h
 obtain ⟨a7, c7, e7⟩ := (((UC _).of (L' := row 5 1 v7 2 (cD o) :: iS q (b.drop 2) 0 :: ah p [pQ q] 338 :: L) sF).at (hw.b [row 5 1 v7 _ _])).form;rw [mF] at e7;subst e7;refine SM ?_;refine bF (fun m e w => ∃ k : Nat, k <= 2 /\ m = 2 - k /\ e = [(2, .slice a7 2 c7), (3, .int .u64 ((nm (o.take k) : Nat) : Int)), (8, .slice a7 2 c7), (9, iQ (2 : Nat)), (10, iQ k)] /\ an G (row 5 1 (.slice a7 2 c7) 2 (cD o) :: iS q (b.drop 2) 0 :: ah p [pQ q] 338 :: L) w)
  (m := 2) sB
  ⟨0, dy _, rfl, rfl, hw.b [row 5 1 _ _ _]⟩ ?_
 rintro m e w ⟨k, hk, rfl, rfl, hw⟩;refine z5 ?_;refine aE rfl (fun h1 => ?_) fun h1 => ?_
 ·
  have gK : k < 2 := oM;have RU : k < 8 := oM;have iv := (UC _).at hw;have y6 := iv;rw [show (2 : Nat) = o.length from mF.symm] at y6
  obtain ⟨bb, oo, rfl⟩ := y6.nn oM;obtain ⟨x, hx⟩ : ∃ x, x = o.getD k 0 := ⟨_, rfl⟩;refine yb ?_;refine cR rfl aI bh rfl rfl ⟨oM, oM⟩ ?_;refine bt rfl rfl (ar.one (v := bv x) eC (by have h := y6.at (i := (k : Int)) ⟨oM, oM⟩; rw [hx]; exact h)) ?_;refine dd (v := (x.toNat : Int)) rfl kR iN du rfl (GP x) ?_;refine z1 ?_;refine jH rfl rfl rfl oM ?_;refine Ir (v := IntKind.u64.wrap ((x.toNat : Int) * 2 ^ min (8 * (k : Int)).toNat IntKind.u64.bits)) rfl rfl rfl oM rfl ?_;refine Lc (v := ((nm (o.take (k + 1)) : Nat) : Int)) rfl rfl rfl (by
   have iy := oI (o.take k);have K1 : (o.take k).length = k := by rw [fB]; omega
   rw [K1] at iy;rw [TQ RU iy x.toNat_lt, eO o k 0 oM, rW, K1, hx]) ?_
  refine z6 ?_;exact ⟨2 - (k + 1), oM, [(2, _), (3, _), (8, _), (9, _), (10, iQ (k + 1 : Nat))], sB, k + 1, oM, rfl, rfl, hw⟩
 have pA : k = 2 := oM;subst pA;have Z0 : o.take 2 = o := oF oM;rw [Z0];refine z4 ?_;refine dd (v := ((nm o : Nat) : Int)) rfl kR du Bm rfl (w16 (by have := oI o; rw [mF] at this; exact this)) ?_;refine z3 ?_;exact aK rfl rfl rfl ⟨rfl, hw.tail⟩
theorem EB : ∀ j, j <= 4 -> (0 < 4294967295 / 256 ^ j ↔ j < 4) := by decide
theorem vR (hw : an G L w) : Calls prog 287 #[] w (bU fun r w' => r = iQ 4 /\ an G L w') := by
 refine ad (args := []) func287 rfl ntmps287 rfl rfl ?_;refine Ht ?_;refine dd (v := 0) rfl kR cP ou rfl dM ?_;refine Le (v := 4294967295) rfl rfl dM ?_;refine dd (v := 4294967295) rfl kR ou du rfl dM ?_;refine z3 ?_;refine bF (fun m e w => ∃ j : Nat, j <= 4 /\ m = 4 - j /\ e = [(1, iQ j), (2, .int .u64 ((4294967295 / 256 ^ j : Nat) : Int))] /\ an G L w)
  (m := 4) sB
  ⟨0, dy _, rfl, rfl, hw⟩ ?_
 rintro m e w ⟨j, hj, rfl, rfl, hw⟩;refine z6 ?_;refine aE rfl (fun h1 => ?_) fun h1 => ?_
 ·
  have Jh := (EB j hj).1 oM;refine mN ?_;refine Ev (v := ((4294967295 / 256 ^ (j + 1) : Nat) : Int)) rfl rfl rfl dM (by rw [V2, V9, <-Nat.pow_succ]) ?_;refine z2 ?_;exact ⟨4 - (j + 1), oM, [(1, iQ (j + 1 : Nat)), (2, _)], sB, j + 1, oM, rfl, rfl, hw⟩
 have Jh : j = 4 := by
  have h2 := (EB j hj).2;refine qA fun hn => ?_
  have := h2 oM;omega
 subst Jh;refine z7 ?_;exact aK rfl rfl rfl ⟨rfl, hw⟩
theorem vV {p : Nat} (hw : an G (iS q b 0 :: ah p [pQ q] 338 :: L) w) (hn : 4 <= b.length) (hl : b.length <= 1000000000000) :
  Calls prog 285 #[pQ p] w (bU fun r w' => r = .int .u32 ((nm (b.take 4) : Nat) : Int) /\ an G (iS q (b.drop 4) 0 :: ah p [pQ q] 338 :: L) w') := by
 have mF : (b.take 4).length = 4 := by rw [fB]; omega
 refine ad (args := [_]) func285 rfl ntmps285 rfl rfl ?_;refine z5 ?_;refine bd [0, 1, 2, 3] bJ kR ?_;replace hw := hw.drawn (w.drawn + 1);refine lD aU hw ?_;refine dJ rfl uE rfl (vR hw) (fun w v6 hv q' hq => ?_) fun w v6 hv => ?_
 ·
  obtain ⟨rfl, hw⟩ := hv;have hq := bm (l := [0]) kR hq;simp only [bQ, dz, or_false] at hq;subst hq;exact bx rfl rfl rfl (ar.bL aU hw pK rfl)
 obtain ⟨rfl, hw⟩ := hv;refine al rfl fE rfl (fR (n := 4) hw hn hl) kR fun w v7 hv => ?_;have hw := hv;obtain ⟨o, ho⟩ : ∃ o, o = b.take 4 := ⟨_, rfl⟩;rw [<-ho] at hw mF ⊢;have UC : ∀ M, aG (row 5 1 v7 4 (cD o) :: M) (dP v7 o) := fun M => by have h := (dP.row (T := 5) (v := v7) (l := o)).head M; rw [mF] at h; exact h
 obtain ⟨a7, c7, e7⟩ := (((UC _).of (L' := row 5 1 v7 4 (cD o) :: iS q (b.drop 4) 0 :: ah p [pQ q] 338 :: L) sF).at (hw.b [row 5 1 v7 _ _])).form;rw [mF] at e7;subst e7;refine SM ?_;refine bF (fun m e w => ∃ k : Nat, k <= 4 /\ m = 4 - k /\ e = [(2, .slice a7 4 c7), (3, .int .u64 ((nm (o.take k) : Nat) : Int)), (8, .slice a7 4 c7), (9, iQ (4 : Nat)), (10, iQ k)] /\ an G (row 5 1 (.slice a7 4 c7) 4 (cD o) :: iS q (b.drop 4) 0 :: ah p [pQ q] 338 :: L) w)
  (m := 4) sB
  ⟨0, dy _, rfl, rfl, hw.b [row 5 1 _ _ _]⟩ ?_
 rintro m e w ⟨k, hk, rfl, rfl, hw⟩;refine z5 ?_;refine aE rfl (fun h1 => ?_) fun h1 => ?_
 ·
  have gK : k < 4 := oM;have RU : k < 8 := oM;have iv := (UC _).at hw;have y6 := iv;rw [show (4 : Nat) = o.length from mF.symm] at y6
  obtain ⟨bb, oo, rfl⟩ := y6.nn oM;obtain ⟨x, hx⟩ : ∃ x, x = o.getD k 0 := ⟨_, rfl⟩;refine yb ?_;refine cR rfl aI bh rfl rfl ⟨oM, oM⟩ ?_;refine bt rfl rfl (ar.one (v := bv x) eC (by have h := y6.at (i := (k : Int)) ⟨oM, oM⟩; rw [hx]; exact h)) ?_;refine dd (v := (x.toNat : Int)) rfl kR iN du rfl (GP x) ?_;refine z1 ?_;refine jH rfl rfl rfl oM ?_;refine Ir (v := IntKind.u64.wrap ((x.toNat : Int) * 2 ^ min (8 * (k : Int)).toNat IntKind.u64.bits)) rfl rfl rfl oM rfl ?_;refine Lc (v := ((nm (o.take (k + 1)) : Nat) : Int)) rfl rfl rfl (by
   have iy := oI (o.take k);have K1 : (o.take k).length = k := by rw [fB]; omega
   rw [K1] at iy;rw [TQ RU iy x.toNat_lt, eO o k 0 oM, rW, K1, hx]) ?_
  refine z6 ?_;exact ⟨4 - (k + 1), oM, [(2, _), (3, _), (8, _), (9, _), (10, iQ (k + 1 : Nat))], sB, k + 1, oM, rfl, rfl, hw⟩
 have pA : k = 4 := oM;subst pA;have Z0 : o.take 4 = o := oF oM;rw [Z0];refine z4 ?_;refine dd (v := ((nm o : Nat) : Int)) rfl kR du ou rfl (w32 (by have := oI o; rw [mF] at this; exact this)) ?_;refine z3 ?_;exact aK rfl rfl rfl ⟨rfl, hw.tail⟩
theorem EA : ∀ j, j <= 8 -> (0 < 18446744073709551615 / 256 ^ j ↔ j < 8) := by decide
theorem vQ (hw : an G L w) : Calls prog 294 #[] w (bU fun r w' => r = iQ 8 /\ an G L w') := by
 refine ad (args := []) func294 rfl ntmps294 rfl rfl ?_;refine Ht ?_;refine dd (v := 0) rfl kR cP du rfl dM ?_;refine Le (v := 18446744073709551615) rfl rfl dM ?_;refine z3 ?_;refine bF (fun m e w => ∃ j : Nat, j <= 8 /\ m = 8 - j /\ e = [(1, iQ j), (2, .int .u64 ((18446744073709551615 / 256 ^ j : Nat) : Int))] /\ an G L w)
  (m := 8) sB
  ⟨0, dy _, rfl, rfl, hw⟩ ?_
 rintro m e w ⟨j, hj, rfl, rfl, hw⟩;refine z6 ?_;refine aE rfl (fun h1 => ?_) fun h1 => ?_
 ·
  have Jh := (EA j hj).1 oM;refine mN ?_;refine Ev (v := ((18446744073709551615 / 256 ^ (j + 1) : Nat) : Int)) rfl rfl rfl dM (by rw [V2, V9, <-Nat.pow_succ]) ?_;refine z2 ?_;exact ⟨8 - (j + 1), oM, [(1, iQ (j + 1 : Nat)), (2, _)], sB, j + 1, oM, rfl, rfl, hw⟩
 have Jh : j = 8 := by
  have h2 := (EA j hj).2;refine qA fun hn => ?_
  have := h2 oM;omega
 subst Jh;refine z7 ?_;exact aK rfl rfl rfl ⟨rfl, hw⟩
theorem vU {p : Nat} (hw : an G (iS q b 0 :: ah p [pQ q] 338 :: L) w) (hn : 8 <= b.length) (hl : b.length <= 1000000000000) :
  Calls prog 293 #[pQ p] w (bU fun r w' => r = .int .u64 ((nm (b.take 8) : Nat) : Int) /\ an G (iS q (b.drop 8) 0 :: ah p [pQ q] 338 :: L) w') := by
 have mF : (b.take 8).length = 8 := by rw [fB]; omega
 refine ad (args := [_]) func293 rfl ntmps293 rfl rfl ?_;refine z5 ?_;refine bd [0, 1, 2, 3] bJ kR ?_;replace hw := hw.drawn (w.drawn + 1);refine lD aU hw ?_;refine dJ rfl uD rfl (vQ hw) (fun w v6 hv q' hq => ?_) fun w v6 hv => ?_
 ·
  obtain ⟨rfl, hw⟩ := hv;have hq := bm (l := [0]) kR hq;simp only [bQ, dz, or_false] at hq;subst hq;exact bx rfl rfl rfl (ar.bL aU hw pK rfl)
 obtain ⟨rfl, hw⟩ := hv;refine al rfl fE rfl (fR (n := 8) hw hn hl) kR fun w v7 hv => ?_;have hw := hv;obtain ⟨o, ho⟩ : ∃ o, o = b.take 8 := ⟨_, rfl⟩;rw [<-ho] at hw mF ⊢;have UC : ∀ M, aG (row 5 1 v7 8 (cD o) :: M) (dP v7 o) := fun M => by have h := (dP.row (T := 5) (v := v7) (l := o)).head M; rw [mF] at h; exact h
 obtain ⟨a7, c7, e7⟩ := (((UC _).of (L' := row 5 1 v7 8 (cD o) :: iS q (b.drop 8) 0 :: ah p [pQ q] 338 :: L) sF).at (hw.b [row 5 1 v7 _ _])).form;rw [mF] at e7;subst e7;refine SM ?_;refine bF (fun m e w => ∃ k : Nat, k <= 8 /\ m = 8 - k /\ e = [(2, .slice a7 8 c7), (3, .int .u64 ((nm (o.take k) : Nat) : Int)), (8, .slice a7 8 c7), (9, iQ (8 : Nat)), (10, iQ k)] /\ an G (row 5 1 (.slice a7 8 c7) 8 (cD o) :: iS q (b.drop 8) 0 :: ah p [pQ q] 338 :: L) w)
  (m := 8) sB
  ⟨0, dy _, rfl, rfl, hw.b [row 5 1 _ _ _]⟩ ?_
 rintro m e w ⟨k, hk, rfl, rfl, hw⟩;refine z5 ?_;refine aE rfl (fun h1 => ?_) fun h1 => ?_
 ·
  have gK : k < 8 := oM;have RU : k < 8 := oM;have iv := (UC _).at hw;have y6 := iv;rw [show (8 : Nat) = o.length from mF.symm] at y6
  obtain ⟨bb, oo, rfl⟩ := y6.nn oM;obtain ⟨x, hx⟩ : ∃ x, x = o.getD k 0 := ⟨_, rfl⟩;refine yb ?_;refine cR rfl aI bh rfl rfl ⟨oM, oM⟩ ?_;refine bt rfl rfl (ar.one (v := bv x) eC (by have h := y6.at (i := (k : Int)) ⟨oM, oM⟩; rw [hx]; exact h)) ?_;refine dd (v := (x.toNat : Int)) rfl kR iN du rfl (GP x) ?_;refine z1 ?_;refine jH rfl rfl rfl oM ?_;refine Ir (v := IntKind.u64.wrap ((x.toNat : Int) * 2 ^ min (8 * (k : Int)).toNat IntKind.u64.bits)) rfl rfl rfl oM rfl ?_;refine Lc (v := ((nm (o.take (k + 1)) : Nat) : Int)) rfl rfl rfl (by
   have iy := oI (o.take k);have K1 : (o.take k).length = k := by rw [fB]; omega
   rw [K1] at iy;rw [TQ RU iy x.toNat_lt, eO o k 0 oM, rW, K1, hx]) ?_
  refine z6 ?_;exact ⟨8 - (k + 1), oM, [(2, _), (3, _), (8, _), (9, _), (10, iQ (k + 1 : Nat))], sB, k + 1, oM, rfl, rfl, hw⟩
 have pA : k = 8 := oM;subst pA;have Z0 : o.take 8 = o := oF oM;rw [Z0];refine z7 ?_;exact aK rfl rfl rfl ⟨rfl, hw.tail⟩
end
def TP (K : hC) (E : List (Nat × hC)) (F : hC) (Pn : List PanicEntry -> hC) (n : Nat) : Exit -> Act -> World -> Prop
 | .normal, a, w => ∃ e, dh n e a /\ K e w
 | .ret, a, w => ∃ e, dh n e a /\ F e w
 | .exit id, a, w => ∃ K', oU E id = some K' /\ ∃ e, dh n e a /\ K' e w
 | .panic ch, a, w => ∃ e, dh n e a /\ Pn ch e w
 | _, _, _ => False
def XP (P : Program) (n : Nat) (c : Code) (K : hC) (E : List (Nat × hC)) (F : hC) (Pn : List PanicEntry -> hC) (e : fm) (w : World) : Prop := ∀ a, dh n e a -> c.wpIn (Fw none) 0 P (TP K E F Pn n) a w
section
variable {P : Program} {n : Nat} {c x y : Code} {K F : hC} {E : List (Nat × hC)} {Pn : List PanicEntry -> hC} {e : fm} {w : World}
theorem nE (h : X P n none c K E F e w) : XP P n c K E F Pn e w := fun a ha => wpIn_mono (h a ha) fun ex a w hq => by
 cases ex <;> simp only [oR] at hq <;> exact hq
theorem lh (h : XP P n x (XP P n y K E F Pn) E F Pn e w) : XP P n (.seq x y) K E F Pn e w := fun a ha =>
 wpIn_seq (wpIn_mono (h a ha) fun ex a w hq => by
  cases ex <;> simp only [TP] at hq <;> simp only [Exit.then]
  case normal => obtain ⟨e, h1, h2⟩ := hq; exact h2 a h1
  case ret => exact hq
  case exit id => exact hq
  case panic ch => exact hq)
theorem SP {Qg : Operand} {p : Prop} [Decidable p] (hc : ev e Qg = some (.bool (decide p))) (ht : p -> XP P n x K E F Pn e w) (hf : ¬ p -> XP P n y K E F Pn e w) : XP P n (.cond Qg x y) K E F Pn e w := fun a ha =>
 wpIn_cond_split (ha.ev hc) (fun h => ht (of_decide_eq_true h) a ha) (fun h => hf (of_decide_eq_false h) a ha)
theorem La {id : Nat} (h : XP P n x K ((id, K) :: E) F Pn e w) : XP P n (.block id x) K E F Pn e w := fun a ha =>
 wpIn_block (wpIn_mono (h a ha) fun ex a w hq => by
  cases ex <;> simp only [TP] at hq <;> simp only [Exit.inBlock]
  case normal => exact hq
  case ret => exact hq
  case panic ch => exact hq
  case exit id' =>
   obtain ⟨K', hk, e, h1, h2⟩ := hq;simp only [oU] at hk
   by_cases Z' : id = id'
   ·subst Z'; simp at hk; subst hk; rw [ao rfl]; exact ⟨e, h1, h2⟩
   ·rw [wP Z'] at hk;rw [aj (fun h => Z' h.symm)];exact ⟨K', hk, e, h1, h2⟩)
theorem VJ (I : Nat -> hC) {m : Nat} {e₀ : fm} (hs : xl e₀ e) (Ug : I m e₀ w)
  (round : ∀ m e w, I m e w -> XP P n c (fun e' w' => ∃ m', m' < m /\ ∃ ze, xl ze e' /\ I m' ze w') E F Pn e w) : XP P n (.loop c) K E F Pn e w := fun a ha =>
 Ix (fun m a w => ∃ e, dh n e a /\ I m e w) (m := m) ⟨e₀, ha.sub hs, Ug⟩ fun m a w ⟨e, ha, hI⟩ =>
  wpIn_mono (round m e w hI a ha) fun ex a w hq => by
   cases ex <;> simp only [TP] at hq <;> simp only [Exit.then]
   case normal => obtain ⟨e', h1, m', hm, ze, hs, hI⟩ := hq; exact ⟨m', hm, ze, h1.sub hs, hI⟩
   case ret => exact hq
   case exit id => exact hq
   case panic ch => exact hq
theorem BC {ops : Array Oper} {Q : Exit -> Act -> World -> Prop} {rest : List Nat} : ∀ (l : List Nat) (a : Act) (w : World), SN P ops (wpOpsIn (Fw none) 0 P ops Q rest) l a w -> wpOpsIn (Fw none) 0 P ops Q (l ++ rest) a w
 | [], _, _, h => h
 | i :: r, a, w, h => by
  rw [iC, wpOpsIn_cons];simp only [SN] at h;cases ho : ops[i]? with
  | none => rw [ho] at h; exact h.elim
  | some o =>
   rw [ho] at h;exact lI ho (fun a' w' h' => BC r a' w' h') h
theorem Pc {id : Nat} {ops : Array Oper} {z : Operand} {d : Nat} {xs : Array Operand} {ts : Array TypeId} {t : TypeId} {p : String} {af : Array Edge} (pre : List Nat) (i : Nat) (post : List Nat) (hl : List.range ops.size = pre ++ i :: post)
  (ho : ops[i]? = some ⟨some d, .call ⟨.value z, xs, ts⟩, t, p, af, none⟩) (hd : Nat.blt d n = true)
  (h : XL P n ops false [] pre (fun e' w' => ∃ (f : FuncId) (c1 c2 : Array Value) (args : List Value) (R : Ending -> World -> Prop), ev e' z = some (.func (.func f) c1 c2) /\ ai P f /\ OP e' xs.toList = some args /\ Calls P f (c1.toList ++ args ++ c2.toList).toArray w' R ∧
   (∀ v CP, R (.returned v) CP -> XL P n ops false [] post K ((d, v) :: e') CP) /\ (∀ ch CP, R (.panicked ch) CP -> Pn ch e' CP) /\ ∀ CP, ¬ R .outgrown CP) e w) : XP P n (.region id ops false) K E F Pn e w := fun a ha => by
 refine wpIn_region ?_;rw [hl];refine BC pre a w (xm (fun a' w' hx => ?_) pre a w (h a ha));obtain ⟨e', El, f, c1, c2, args, R, hz, ⟨fn, hf, r9, zL⟩, Mt, hc, Us, acr, acu⟩ := hx;obtain ⟨hk, hm⟩ := qU Mt;rw [wpOpsIn_cons];unfold wpOpIn;simp only [ho];rw [ao (by simp [Region.wanted])];refine ⟨fun _ _ => trivial, ?_⟩;have PZ : a'.eval z = .func (.func f) c1 c2 := El.ev hz;have Mh : xs.map a'.eval = args.toArray := by
  apply Array.ext';simp only [Array.toList_map];rw [<-hm];exact LH fun q hq => El.ev (hk q hq)
 have uq : ((execOp a'.eval (⟨some d, .call ⟨.value z, xs, ts⟩, t, p, af, none⟩ : Oper))).run P w' = .ok (.enter f (c1.toList ++ args ++ c2.toList).toArray) w' := by
  have e1 : c1 ++ args.toArray ++ c2 = (c1.toList ++ args ++ c2.toList).toArray := by apply Array.ext'; simp
  simp only [execOp, resolve, PZ, Deferred.ofValue, invoke, callFunc, Mh, e1, Sem.run_bind, Sem.run_pure, Result.andThen_ok, program, Sem.run, hf, r9, zL];simp
 show Oper.uponIn (Fw none) 0 P (⟨some d, .call ⟨.value z, xs, ts⟩, t, p, af, none⟩ : Oper) a' _ _ ((execOp a'.eval (⟨some d, .call ⟨.value z, xs, ts⟩, t, p, af, none⟩ : Oper)).run P w')
 rw [uq, Oper.uponIn_enter];refine ⟨(fun hd => by cases hd), Calls.fw (Calls.mono hc fun en CP hR => ?_) _ _⟩;cases en with
 | returned v => exact u2 _ _ _ (Us v CP hR _ (El.put (by simpa using hd) v))
 | panicked ch => exact ⟨e', El, acr ch CP hR⟩
 | outgrown => exact absurd hR (acu CP)
theorem SO {id : Nat} {ops : Array Oper} {z : Operand} {t : TypeId} {p : String} {af : Array Edge} (pre : List Nat) (i : Nat) (hl : List.range ops.size = pre ++ [i])
  (ho : ops[i]? = some ⟨none, .panic z, t, p, af, none⟩)
  (h : XL P n ops false [] pre (fun e' w' => ∃ T v, ev e' z = some (.iface T v) /\ Pn [{ v := .iface T v, recovered := false }] e' w') e w) : XP P n (.region id ops false) K E F Pn e w := fun a ha => by
 refine wpIn_region ?_;rw [hl];refine BC pre a w (xm (fun a' w' hx => ?_) pre a w (h a ha));obtain ⟨e', El, T, v, hz, hp⟩ := hx;rw [wpOpsIn_cons];unfold wpOpIn;simp only [ho];rw [ao (by simp [Region.wanted])];refine ⟨fun _ _ => trivial, ?_⟩;have PZ : a'.eval z = .iface T v := El.ev hz;have uq : ((execOp a'.eval (⟨none, .panic z, t, p, af, none⟩ : Oper))).run P w' = .halt (.panic (.iface T v)) w' := by
  simp only [execOp, PZ];rfl
 show Oper.uponIn (Fw none) 0 P (⟨none, .panic z, t, p, af, none⟩ : Oper) a' _ _ ((execOp a'.eval (⟨none, .panic z, t, p, af, none⟩ : Oper)).run P w')
 rw [uq, Oper.uponIn_panic];exact ⟨e', El, hp⟩
end
def aal (P : Program) (n : Nat) (fn : Func) (R : Ending -> World -> Prop) : hC := fun e w => ∀ a, dh n e a -> LeavesInM (Fw none) 0 P fn a.tmps R a.defers .returning w
def UR (P : Program) (n : Nat) (fn : Func) (R : Ending -> World -> Prop) (ch : List PanicEntry) : hC := fun e w => ∀ a, dh n e a -> LeavesInM (Fw none) 0 P fn a.tmps R a.defers (.panicking ch) w
theorem wx {P : Program} {f : FuncId} {fn : Func} {c : Code} {args : List Value} {w : World} {R : Ending -> World -> Prop} {n : Nat}
  (hf : P.funcs[f]? = some fn) (hb : fn.body = some c) (hn : fn.ntmps = n) (hle : Nat.ble args.length n = true) (hs : Nat.ble n 1000000 = true)
  (h : XP P n c (aal P n fn R) [] (aal P n fn R) (UR P n fn R) (qq 0 args) w) : Calls P f args.toArray w R := by
 refine callsIn_wide (n := 0).1 (callsIn_of_wp_marks (F := Fw none) hf hb trivial ?_);refine wpIn_mono (h _ (by rw [hn]; exact tM hle hs)) fun ex a w hq => ?_
 cases ex <;> simp only [TP, oU] at hq <;> simp only [bodyPostM]
 case normal => obtain ⟨e, ha, h1⟩ := hq; exact h1 a ha
 case ret => obtain ⟨e, ha, h1⟩ := hq; exact h1 a ha
 case exit => obtain ⟨K, hk, _⟩ := hq; cases hk
 case panic ch => obtain ⟨e, ha, h1⟩ := hq; exact h1 a ha
section
variable {P : Program} {n : Nat} {fn : Func} {R : Value -> World -> Prop} {R' : Ending -> World -> Prop} {e : fm} {w : World}
theorem C' {ch : List PanicEntry} (hm : marks e = []) (h : R' (.panicked ch) w) : UR P n fn R' ch e w := fun a ha => by rw [ha.defers, hm]; exact h
theorem P7 (h : nz P n fn R e w) (hr : ∀ en w, bU R en w -> R' en w) : aal P n fn R' e w := fun a ha => by
 have h1 := h a ha;have key : ∀ (ds : List Deferred) (u : FrameMode) (w : World), LeavesInM (Fw none) 0 P fn a.tmps (bU R) ds u w -> LeavesInM (Fw none) 0 P fn a.tmps R' ds u w := by
  intro ds
  induction ds with
  | nil =>
   intro u w hh;cases u with
   | run => exact hh
   | returning => obtain ⟨v, h1, h2⟩ := hh; exact ⟨v, h1, hr _ _ h2⟩
   | panicking ch => exact hr _ _ hh
  | cons d ds ih =>
   intro u w ⟨h0, hh⟩;refine ⟨h0, hh.imp (fun ⟨r, w', a1, a2, a3⟩ => ⟨r, w', a1, a2, ih _ _ a3⟩) fun ⟨a1, fv, cap, f, args, a2, a3, a4, a5⟩ => ⟨a1, fv, cap, f, args, a2, a3, a4, CallsDIn.mono a5 fun en u' w' hq => ?_⟩⟩;cases en with
   | returned v => exact ih _ _ hq
   | panicked ch => exact ih _ _ hq
   | outgrown => exact hr _ _ hq
 exact key _ _ _ h1
def qy : FrameMode -> Value × FrameMode
 | .panicking ({ v, recovered := false, goexit := false } :: aa1) => (v, .panicking ({ v, recovered := true } :: aa1))
 | u => (.nilIface, u)
theorem pH {f : FuncId} {rest : Code} {id d d2 : Nat} {t t2 : TypeId} {p p2 : String} {af af2 : Array Edge} {args : List Value} {u : FrameMode}
  (hf : P.funcs[f]? = some fn) (hb : fn.body = some (.seq (.region id #[⟨some d, .call ⟨.builtin .recover, #[], #[]⟩, t, p, af, none⟩, ⟨some d2, .assign (.tmp d), t2, p2, af2, none⟩] false) rest)) (hn : fn.ntmps = n) (hle : Nat.ble args.length n = true) (hs : Nat.ble n 1000000 = true)
  (hd : Nat.blt d n = true) (P1 : Nat.blt d2 n = true)
  (h : X P n none rest (qp P n fn R) [] (qp P n fn R) ((d2, (qy u).1) :: (d, (qy u).1) :: qq 0 args) w) : CallsDIn (Fw none) 0 P f args.toArray u w fun en u' w' => u' = (qy u).2 /\ bU R en w' := by
 refine callsDIn_of_wpSIn hf hb trivial fun tk cs hu => ?_
 refine wpSIn_seq (wpSIn_region ?_);have ha0 : dh n (qq 0 args) { tmps := args.toArray ++ Array.replicate (fn.ntmps - args.toArray.size) undef, defers := [] } := by rw [hn]; exact tM hle hs
 obtain ⟨a0, ea0⟩ : ∃ a0 : Act, a0 = { tmps := args.toArray ++ Array.replicate (fn.ntmps - args.toArray.size) undef, defers := [] } := ⟨_, rfl⟩;rw [<-ea0] at ha0 ⊢;have Mv := ha0.put (show d < n by simpa using hd) (qy u).1;have ha2 := Mv.put (show d2 < n by simpa using P1) (qy u).1;obtain ⟨a2, ea2⟩ : ∃ a2, a2 = (a0.put (some d) (qy u).1).put (some d2) (qy u).1 := ⟨_, rfl⟩;rw [<-ea2] at ha2
 have Mp : ∀ (YJ : List Frame), YJ = { tk with mode := (qy u).2 } :: cs -> rest.wpSIn (Fw none) 0 P (bodyPostS P fn tk cs fun en u' w' => u' = (qy u).2 /\ bU R en w') a2 YJ w := fun YJ iT => by
  refine wpSIn_of_wpIn rfl (wpIn_mono (h a2 ha2) fun ex a w hq => ?_);cases ex <;> simp only [oR, oU, qp] at hq <;> simp only [bodyPostS]
  case normal =>
   obtain ⟨e, ha, hm, h1⟩ := hq;obtain ⟨v, hv, hR⟩ := h1 a ha;exact ⟨by rw [ha.defers, hm]; rfl, _, iT, v, hv, rfl, v, rfl, hR⟩
  case ret =>
   obtain ⟨e, ha, hm, h1⟩ := hq;obtain ⟨v, hv, hR⟩ := h1 a ha;exact ⟨by rw [ha.defers, hm]; rfl, _, iT, v, hv, rfl, v, rfl, hR⟩
  case exit => obtain ⟨K, hk, _⟩ := hq; cases hk
 have Nw : d < n := by simpa using hd
 have P1 : n <= 1000000 := by simpa using hs
 have qF : d ≠ 1000000000 := oM;have PZ : (a0.put (some d) (qy u).1).eval (.tmp d) = (qy u).1 := Mv.ev (x := .tmp d) (by simp only [ev, qq, get, Nat.beq_refl, wP qF, Bool.not_false, Bool.and_true, cond]);have xy : recoverD (tk :: cs) = (match recoverD (tk :: cs) with | some x => some x | none => none) := by cases recoverD (tk :: cs) <;> rfl
 show wpOpsSIn (Fw none) 0 P _ _ [0, 1] a0 (tk :: cs) w
 have two : ∀ (YJ : List Frame), YJ = { tk with mode := (qy u).2 } :: cs -> wpOpsSIn (Fw none) 0 P #[⟨some d, .call ⟨.builtin .recover, #[], #[]⟩, t, p, af, none⟩, ⟨some d2, .assign (.tmp d), t2, p2, af2, none⟩] (Exit.thenS (rest.wpSIn (Fw none) 0 P (bodyPostS P fn tk cs fun en u' w' => u' = (qy u).2 /\ bU R en w')) (bodyPostS P fn tk cs fun en u' w' => u' = (qy u).2 /\ bU R en w')) [1] (a0.put (some d) (qy u).1) YJ w := fun YJ iT => by
  have uq : (execOp (a0.put (some d) (qy u).1).eval (⟨some d2, .assign (.tmp d), t2, p2, af2, none⟩ : Oper)).run P w = .ok (.value (qy u).1) w := by simp [execOp, PZ]
  refine ⟨fun _ _ => trivial, ?_⟩;rw [ao (by simp [Region.wanted])]
  erw [uq]
  show Exit.thenS _ _ .normal _ _ _
  have := Mp YJ iT;rw [ea2] at this;exact this
 refine ⟨fun _ _ => trivial, ?_⟩;rw [ao (by simp [Region.wanted])];have uq : (execOp a0.eval (⟨some d, .call ⟨.builtin .recover, #[], #[]⟩, t, p, af, none⟩ : Oper)).run P w = .ok .recover w := by simp [execOp, resolve, invoke, builtin]
 erw [uq]
 subst hu;have hr : recoverD (tk :: cs) = none /\ tk.mode = (qy tk.mode).2 /\ (qy tk.mode).1 = .nilIface \/ recoverD (tk :: cs) = some ((qy tk.mode).1, { tk with mode := (qy tk.mode).2 } :: cs) := by
  unfold recoverD;cases hm : tk.mode with
  | run => exact .inl ⟨by simp [hm], rfl, rfl⟩
  | returning => exact .inl ⟨by simp [hm], rfl, rfl⟩
  | panicking l =>
   cases l with
   | nil => exact .inl ⟨by simp [hm], rfl, rfl⟩
   | cons x l =>
    obtain ⟨v, r, g⟩ := x;cases r <;> cases g
    ·exact .inr (by simp [hm, qy])
    ·exact .inl ⟨by simp [hm], rfl, rfl⟩
    ·exact .inl ⟨by simp [hm], rfl, rfl⟩
    exact .inl ⟨by simp [hm], rfl, rfl⟩
 rcases hr with ⟨h1, h2, h3⟩ | h1
 ·simp only [h1];have h4 := two (tk :: cs) (by rw [<-h2]);rw [h3] at h4;exact h4
 simp only [h1];exact two _ rfl
theorem RA {UN : FuncId} {first captured : Array Value} {v : Value} {Q : Value -> World -> Prop} (hm : marks e = [.func (.func UN) first captured]) (hb : (∃ f, P.funcs[UN]? = some f /\ (f.name == "runtime.NumGoroutine") = false /\ f.body.isNone = false))
  (hc : CallsDIn (Fw none) 0 P UN (first ++ captured) (.panicking [{ v := v, recovered := false }]) w fun en u' w' => u' = .panicking [{ v := v, recovered := true }] /\ bU Q en w') (h : ∀ x w', Q x w' -> ox P n fn R e [] w') : UR P n fn (bU R) [{ v := v, recovered := false }] e w := fun a ha => by
 rw [ha.defers, hm];refine ⟨by simp, .inr ⟨(fun hd => by cases hd), .func UN, captured, UN, first ++ captured, rfl, ?_, fun _ _ => trivial, hc.1, fun c cs hm hr => ?_⟩⟩
 ·obtain ⟨f, h1, h2, h3⟩ := hb;simp only [YI, invoke, callFunc, Sem.run_bind, Sem.run_pure, Result.andThen_ok, program, Sem.run, h1, h2, h3];simp
 obtain ⟨en, u', w', fr, ⟨hu, x, hv, hQ⟩, hs, hk, hf, hg⟩ := hc.2 c cs hm (Ad none _);subst hv;exact ⟨_, u', w', fr, by subst hu; exact h x w' hQ a ha, hs, hk, hf, hg⟩
end
end Go.Proofs.YtjbkgbilbnccnaaGreatDoor.X
